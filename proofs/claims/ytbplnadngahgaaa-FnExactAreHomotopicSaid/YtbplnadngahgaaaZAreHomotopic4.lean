/-
  What the statement FnExactAreHomotopic uses of the walks, part 4.
  Conditions: each theorem's own.
-/
import Derived.Test.YtbplnadngahgaaaG16
import Derived.Test.YtbplnadngahgaaaG17
import Derived.Test.YtbplnadngahgaaaG14
import Derived.Test.YtbplnadngahgaaaG13
import Derived.Test.YtbplnadngahgaaaG15
import Derived.Test.YtbplnadngahgaaaG18
import Derived.Test.YtbplnadngahgaaaG19
import Derived.Test.YtbplnadngahgaaaZAreHomotopic1
import Derived.Test.YtbplnadngahgaaaZAreHomotopic2
import Derived.Test.YtbplnadngahgaaaZAreHomotopic3
set_option linter.unusedVariables false
set_option linter.unusedSimpArgs false
namespace Go.Proofs.Ytbplnadngahgaaa
open Go
theorem bs2F (h : Heap) (A B : Option Addr) (n c m d : Nat) : buildSliceV TT h 88 2 [(0, .slice A n c), (1, .slice B m d)] = some (.slice (some ⟨h.size, 0, none⟩) 2 2, h.push (.cells #[.slice A n c, .slice B m d] 23)) := by kernel_rfl
section
variable {P : Program} {n : Nat} {K : Env → Heap → Prop} {env : Env} {h : Heap} {d : Option Tmp} {ty : TypeId} {p : String} {a : Array Edge} {g : Option (Nat × Bool)}
set_option maxRecDepth 100000 in
theorem op_bs2F {x y : Operand} {f g' : List (List (List Int))} (hx : R3 h (ev env x) f) (hy : R3 h (ev env y) g') (hk : ∀ v' h', R4 h' v' [f, g'] → Ext h h' → outv n ⟨d, .buildSlice 88 2 #[(0, x), (1, y)], ty, p, a, g⟩ K env h' v') :
  opP P TT n ⟨d, .buildSlice 88 2 #[(0, x), (1, y)], ty, p, a, g⟩ K env h := by
 have hx' := hx
 obtain ⟨A, c, e1, _⟩ := hx'
 have hy' := hy
 obtain ⟨B, c2, e2, _⟩ := hy'
 rw [opP_buildSlice]
 have : (#[(0, x), (1, y)].map (fun (i, x) => (i, ev env x)) : Array (Nat × Value)).toList = [(0, .slice A f.length c), (1, .slice B g'.length c2)] := by simp [e1, e2]
 rw [this, bs2F, Bd_some]
 have ex := Ext.push h (.cells #[.slice A f.length c, .slice B g'.length c2] 23)
 have hb := BoxAt.new h #[.slice A f.length c, .slice B g'.length c2] 23
 refine hk _ _ ⟨some ⟨h.size, 0, none⟩, 2, rfl, .inl rfl, by simp, by omega, fun j hj => ?_⟩ ex
 have hj' : j = 0 ∨ j = 1 := by simp at hj; omega
 rcases hj' with rfl | rfl
 ·exact ⟨.slice A f.length c, by simp only [sA, addr_add, hb.cell]; rfl, by rw [e1] at hx; exact hx.pres ex.pres⟩
 ·exact ⟨.slice B g'.length c2, by simp only [sA, addr_add, hb.cell]; rfl, by rw [e2] at hy; exact hy.pres ex.pres⟩
end
/-- A statement as a truth value. -/
noncomputable def pdec (P : Prop) : Bool := @decide P (Classical.propDecidable P)
theorem pdec_t {P : Prop} : pdec P = true ↔ P := @decide_eq_true_iff _ (Classical.propDecidable P)
theorem pdec_f {P : Prop} : pdec P = false ↔ ¬ P := @decide_eq_false_iff_not _ (Classical.propDecidable P)
theorem pdec_no {P : Prop} (h : ¬ P) : false = pdec P := (pdec_f.2 h).symm
theorem pdec_yes {P : Prop} (h : P) : true = pdec P := (pdec_t.2 h).symm
def famAt (X Y : Cx) (f : List (List (List Int))) (s : Int) (n : Nat) : Bool := tableP X.p (f.getD n default) (X.dims.getD n 0) (dimP Y ((n : Int) + s))
structure IsFam (X Y : Cx) (f : List (List (List Int))) (s : Int) : Prop where
 len : f.length = X.dims.length
 rows : ∀ n, n < f.length → famAt X Y f s n = true
noncomputable def famP (X Y : Cx) (f : List (List (List Int))) (s : Int) : Bool := pdec (IsFam X Y f s)
theorem isRow_all {p n : Int} {r : List Int} (h : isRow p n r = true) : r.all (fun x => in3 x 0 (p - 1)) = true := by
 unfold isRow at h
 rw [Bool.and_eq_true] at h
 exact h.2
theorem famAt_iff {X Y : Cx} {f : List (List (List Int))} {s : Int} {n : Nat} : famAt X Y f s n = true ↔ ((f.getD n default).length : Int) = X.dims.getD n 0 ∧ (f.getD n default).all (isRow X.p (dimP Y ((n : Int) + s))) = true := by
 simp only [famAt, tableP, Bool.and_eq_true, decide_eq_true_eq]
theorem IsFam.at {X Y : Cx} {f : List (List (List Int))} {s : Int} (h : IsFam X Y f s) {n : Nat} (hn : n < f.length) : ((f.getD n default).length : Int) = X.dims.getD n 0 ∧ Tbl X.p (dimP Y ((n : Int) + s)) (f.getD n default) := tableP_iff.1 (h.rows n hn)
theorem IsFam.row {X Y : Cx} {f : List (List (List Int))} {s : Int} (h : IsFam X Y f s) {n i : Nat} (hn : n < f.length) (hi : i < (f.getD n default).length) : isRow X.p (dimP Y ((n : Int) + s)) ((f.getD n default).getD i default) = true := all_at (d := default) (famAt_iff.1 (h.rows n hn)).2 hi
noncomputable def famC (X Y : Cx) (L : List (List (List (List Int)))) : Int := cadd (pairC X Y) 2 (L.any fun f => !famP X Y f 0)
theorem famC_0 {X Y : Cx} {L : List (List (List (List Int)))} (h : famC X Y L = 0) : pairC X Y = 0 ∧ ∀ f ∈ L, IsFam X Y f 0 := by
 obtain ⟨h1, h2⟩ := (cadd_0 (by decide)).1 h
 refine ⟨h1, fun f hf => ?_⟩
 rw [List.any_eq_false] at h2
 have := h2 f hf
 simp only [Bool.not_eq_true', Bool.not_eq_false] at this
 exact pdec_t.1 this
theorem any_stop {α : Type} {f : α → Bool} {xs : List α} {d : α} {k : Nat} (hk : k < xs.length) (e : f (xs.getD k d) = true) : xs.any f = true := by
 rw [List.getD_eq_getElem?_getD, List.getElem?_eq_getElem hk] at e
 exact List.any_eq_true.2 ⟨_, List.getElem_mem hk, e⟩
theorem any_end {α : Type} {f : α → Bool} {xs : List α} {k : Nat} (d : α) (hk : ¬ k < xs.length) (h : ∀ j, j < k → f (xs.getD j d) = false) : xs.any f = false := by
 rw [List.any_eq_false]
 intro x hx
 obtain ⟨j, hj, rfl⟩ := List.getElem_of_mem hx
 have := h j (by omega)
 rw [List.getD_eq_getElem?_getD, List.getElem?_eq_getElem hj] at this
 simp only [Option.getD_some] at this
 rw [this]; decide

set_option maxRecDepth 100000 in
theorem iFam_ok (vX vY vf : Value) (X : Cx) (Y : Cx) (f : List (List (List Int))) (s : Int) (h : Heap) (rX : RC h vX X) (rY : RC h vY Y) (rf : R3 h vf f) (hX : IsC X) (hs : 0 ≤ s ∧ s ≤ 1) : CallA Try.prog 135 #[vX, vY, vf, .int .i64 s] h fun v' h' => v' = .bool (famP X Y f s) ∧ Ext h h' := by
 obtain ⟨vdX, vmX, rfl, hdX, hmX⟩ := rX
 have hledX := RdS.le hdX
 have hlemX := RdS.le hmX
 obtain ⟨vdY, vmY, rfl, hdY, hmY⟩ := rY
 have hledY := RdS.le hdY
 have hlemY := RdS.le hmY
 have hlef := RdS.le rf
 have hlen := hX.len
 have hpb := isP_bnd hX.p
 refine callA_intro TTok (args := [_, _, _, _]) Try.func135 (by kernel_rfl) rfl 45 rfl (by simp) [.tmp 8] rfl ?_
 simp only [idxs, Nat.reduceAdd]
 refine den_seq ?_
 refine den_region TTok ?_
 intro K hK
 simp -implicitDefEqProofs (disch := first | decide | assumption | omega) only [go_sem, RdS.len hdX sl22, RdS.idx hdX sl22, R1.intB hdX (HPres.refl _), RdS.cells hdX, RdS.len hmX sl23, RdS.idx hmX sl23, RdS.cellB hmX (HPres.refl _), RdS.cells hmX, RdS.len hdY sl22, RdS.idx hdY sl22, R1.intB hdY (HPres.refl _), RdS.cells hdY, RdS.len hmY sl23, RdS.idx hmY sl23, RdS.cellB hmY (HPres.refl _), RdS.cells hmY, RdS.len rf sl23, RdS.idx rf sl23, RdS.cellB rf (HPres.refl _), RdS.cells rf, wrap_id]
 refine op_box (cs := #[.int .i64 (X.p), vdX, vmX]) rfl ?_
 intro h0_0 e0_0 hb0_0 z0_0
 have := Ext.size e0_0
 have eB := e0_0
 have hfhb0_0 : Fresh h.size [h.size] := Fresh.one _
 have hlhb0_0 := one_lt (show h.size < h0_0.size by omega)
 try simp -implicitDefEqProofs (disch := first | decide | assumption | omega) only [go_sem, RdS.len hdX sl22, RdS.idx hdX sl22, R1.intB hdX (Ext.pres eB), RdS.cells hdX, RdS.len hmX sl23, RdS.idx hmX sl23, RdS.cellB hmX (Ext.pres eB), RdS.cells hmX, RdS.len hdY sl22, RdS.idx hdY sl22, R1.intB hdY (Ext.pres eB), RdS.cells hdY, RdS.len hmY sl23, RdS.idx hmY sl23, RdS.cellB hmY (Ext.pres eB), RdS.cells hmY, RdS.len rf sl23, RdS.idx rf sl23, RdS.cellB rf (Ext.pres eB), RdS.cells rf, BoxAt.cell hb0_0, wrap_id]
 refine op_box (cs := #[.int .i64 (Y.p), vdY, vmY]) rfl ?_
 intro h0_1 e0_1 hb0_1 z0_1
 replace hb0_0 := BoxAt.ext hb0_0 e0_1
 have := Ext.size e0_1
 replace eB := Ext.trans eB e0_1
 have hfhb0_1 : Fresh h0_0.size [h0_0.size] := Fresh.one _
 have hlhb0_1 := one_lt (show h0_0.size < h0_1.size by omega)
 try simp -implicitDefEqProofs (disch := first | decide | assumption | omega) only [go_sem, RdS.len hdX sl22, RdS.idx hdX sl22, R1.intB hdX (Ext.pres eB), RdS.cells hdX, RdS.len hmX sl23, RdS.idx hmX sl23, RdS.cellB hmX (Ext.pres eB), RdS.cells hmX, RdS.len hdY sl22, RdS.idx hdY sl22, R1.intB hdY (Ext.pres eB), RdS.cells hdY, RdS.len hmY sl23, RdS.idx hmY sl23, RdS.cellB hmY (Ext.pres eB), RdS.cells hmY, RdS.len rf sl23, RdS.idx rf sl23, RdS.cellB rf (Ext.pres eB), RdS.cells rf, BoxAt.cell hb0_0, BoxAt.cell hb0_1, wrap_id]
 refine hK _ _ ?_
 clear hK K
 refine den_seq ?_
 refine den_seq ?_
 refine den_region TTok ?_
 intro K hK
 simp -implicitDefEqProofs (disch := first | decide | assumption | omega) only [go_sem, fa30_1, ld22, RdS.len hdX sl22, RdS.idx hdX sl22, R1.intB hdX (Ext.pres eB), RdS.cells hdX, RdS.len hmX sl23, RdS.idx hmX sl23, RdS.cellB hmX (Ext.pres eB), RdS.cells hmX, RdS.len hdY sl22, RdS.idx hdY sl22, R1.intB hdY (Ext.pres eB), RdS.cells hdY, RdS.len hmY sl23, RdS.idx hmY sl23, RdS.cellB hmY (Ext.pres eB), RdS.cells hmY, RdS.len rf sl23, RdS.idx rf sl23, RdS.cellB rf (Ext.pres eB), RdS.cells rf, BoxAt.cell hb0_0, BoxAt.cell hb0_1, wrap_id]
 refine hK _ _ ?_
 clear hK K
 refine den_cond rfl (fun c0 => ?_) (fun c0 => ?_)
 ·try simp only [decide_eq_true_eq, decide_eq_false_iff_not, beq_iff_eq, beq_eq_false_iff_ne, bne_iff_ne, ne_eq, Bool.not_eq_true', Bool.not_eq_false', Bool.and_eq_true, Bool.or_eq_true, bne_eq_false_iff_eq, Bool.or_eq_false_iff, Bool.and_eq_false_iff] at c0
  refine den_seq ?_
  refine den_region TTok ?_
  intro K hK
  simp -implicitDefEqProofs (disch := first | decide | assumption | omega) only [go_sem, RdS.len hdX sl22, RdS.idx hdX sl22, R1.intB hdX (Ext.pres eB), RdS.cells hdX, RdS.len hmX sl23, RdS.idx hmX sl23, RdS.cellB hmX (Ext.pres eB), RdS.cells hmX, RdS.len hdY sl22, RdS.idx hdY sl22, R1.intB hdY (Ext.pres eB), RdS.cells hdY, RdS.len hmY sl23, RdS.idx hmY sl23, RdS.cellB hmY (Ext.pres eB), RdS.cells hmY, RdS.len rf sl23, RdS.idx rf sl23, RdS.cellB rf (Ext.pres eB), RdS.cells rf, wrap_id]
  refine hK _ _ ?_
  clear hK K
  refine den_ret ?_
  simp (disch := decide) only [resP_1, puts_same, puts_ne]
  exact ⟨vbool (pdec_no fun hF => c0 (by have := hF.len; omega)), eB⟩
 ·try simp only [decide_eq_true_eq, decide_eq_false_iff_not, beq_iff_eq, beq_eq_false_iff_ne, bne_iff_ne, ne_eq, Bool.not_eq_true', Bool.not_eq_false', Bool.and_eq_true, Bool.or_eq_true, bne_eq_false_iff_eq, Bool.or_eq_false_iff, Bool.and_eq_false_iff] at c0
  refine den_skip ?_
  refine den_seq ?_
  refine den_seq ?_
  refine den_region TTok ?_
  intro K hK
  simp -implicitDefEqProofs (disch := first | decide | assumption | omega) only [go_sem, RdS.len hdX sl22, RdS.idx hdX sl22, R1.intB hdX (Ext.pres eB), RdS.cells hdX, RdS.len hmX sl23, RdS.idx hmX sl23, RdS.cellB hmX (Ext.pres eB), RdS.cells hmX, RdS.len hdY sl22, RdS.idx hdY sl22, R1.intB hdY (Ext.pres eB), RdS.cells hdY, RdS.len hmY sl23, RdS.idx hmY sl23, RdS.cellB hmY (Ext.pres eB), RdS.cells hmY, RdS.len rf sl23, RdS.idx rf sl23, RdS.cellB rf (Ext.pres eB), RdS.cells rf, BoxAt.cell hb0_0, BoxAt.cell hb0_1, wrap_id]
  refine hK _ _ ?_
  clear hK K
  refine den_block ?_
  refine den_sel [19, 3, 4, 5, 17, 18] ?_
  intro env_1
  simp only [go_sem]
  refine den_loopS (σ := Nat) (fun st_ => [(19, .int .i64 (st_ : Int))]) (fun st_ H => (st_ ≤ f.length) ∧ (∀ j, j < st_ → famAt X Y f s j = true) ∧ (Ext h0_1 H)) (fun st_ => f.length - st_) 0 ?_ ?_
  ·exact ⟨by simp, fun j hj => by omega, Ext.refl _⟩
  ·rintro n h4 ee3 ⟨hn, hz, cL2⟩
   replace hb0_0 := BoxAt.ext hb0_0 cL2
   replace hb0_1 := BoxAt.ext hb0_1 cL2
   have := Ext.size cL2
   replace eB := Ext.trans eB cL2
   simp only [List.cons_append, List.nil_append]
   refine den_seq ?_
   refine den_region TTok ?_
   intro K hK
   simp -implicitDefEqProofs (disch := first | decide | assumption | omega) only [go_sem, RdS.len hdX sl22, RdS.idx hdX sl22, R1.intB hdX (Ext.pres eB), RdS.cells hdX, RdS.len hmX sl23, RdS.idx hmX sl23, RdS.cellB hmX (Ext.pres eB), RdS.cells hmX, RdS.len hdY sl22, RdS.idx hdY sl22, R1.intB hdY (Ext.pres eB), RdS.cells hdY, RdS.len hmY sl23, RdS.idx hmY sl23, RdS.cellB hmY (Ext.pres eB), RdS.cells hmY, RdS.len rf sl23, RdS.idx rf sl23, RdS.cellB rf (Ext.pres eB), RdS.cells rf, BoxAt.cell hb0_0, BoxAt.cell hb0_1, wrap_id]
   refine hK _ _ ?_
   clear hK K
   refine den_seq ?_
   refine den_cond rfl (fun c1 => ?_) (fun c1 => ?_)
   ·try simp only [decide_eq_true_eq, decide_eq_false_iff_not, beq_iff_eq, beq_eq_false_iff_ne, bne_iff_ne, ne_eq, Bool.not_eq_true', Bool.not_eq_false', Bool.and_eq_true, Bool.or_eq_true, bne_eq_false_iff_eq, Bool.or_eq_false_iff, Bool.and_eq_false_iff] at c1
    refine den_skip ?_
    refine den_seq ?_
    refine den_block ?_
    refine den_seq ?_
    refine den_region TTok ?_
    intro K hK
    have hr5 := RdS.rowN rf n (by omega)
    have hlhr5 := RdS.le hr5
    simp -implicitDefEqProofs (disch := first | decide | assumption | omega) only [go_sem, ld36, RdS.len hdX sl22, RdS.idx hdX sl22, R1.intB hdX (Ext.pres eB), RdS.cells hdX, RdS.len hmX sl23, RdS.idx hmX sl23, RdS.cellB hmX (Ext.pres eB), RdS.cells hmX, RdS.len hdY sl22, RdS.idx hdY sl22, R1.intB hdY (Ext.pres eB), RdS.cells hdY, RdS.len hmY sl23, RdS.idx hmY sl23, RdS.cellB hmY (Ext.pres eB), RdS.cells hmY, RdS.len rf sl23, RdS.idx rf sl23, RdS.cellB rf (Ext.pres eB), RdS.cells rf, RdS.len hr5 sl36, RdS.idx hr5 sl36, RdS.cellB hr5 (Ext.pres eB), RdS.cells hr5, BoxAt.cell hb0_0, BoxAt.cell hb0_1, wrap_id]
    refine hK _ _ ?_
    clear hK K
    refine den_seq ?_
    refine den_merge [(43, .bool ((((((f).getD n default).length : Int) != ((X.dims).getD n 0)) || (!((((f).getD n default).all (isRow X.p (dimP Y ((n : Int) + s)))))))))] [3, 4, 5, 17, 18, 19] (fun H => Ext h4 H) ?_ ?_
     -- a way
    ·refine den_draw TTok mixed [] [(0, true), (2, true), (3, true), (4, true), (5, true), (6, true), (1, false), (7, true), (8, true), (9, true), (10, true), (11, true), (12, true), (13, true), (14, true), (16, true), (15, false), (17, false), (18, true), (19, true)] (by kernel_rfl) ?_
     intro K hK
     simp -implicitDefEqProofs (disch := first | decide | assumption | (simp (disch := decide) only [slotOf_zero, slotOf_succ, Option.map_some, puts_same, puts_ne, gv_bool, gv_undef, tt, tf, ft, ff, eq_self, if_true, if_false, Bool.false_eq_true, Bool.not_true, Bool.not_false]; done) | omega) only [go_sem, fa30_1, ld22, ld2, RdS.len hdX sl22, RdS.idx hdX sl22, R1.intB hdX (Ext.pres eB), RdS.cells hdX, RdS.len hmX sl23, RdS.idx hmX sl23, RdS.cellB hmX (Ext.pres eB), RdS.cells hmX, RdS.len hdY sl22, RdS.idx hdY sl22, R1.intB hdY (Ext.pres eB), RdS.cells hdY, RdS.len hmY sl23, RdS.idx hmY sl23, RdS.cellB hmY (Ext.pres eB), RdS.cells hmY, RdS.len rf sl23, RdS.idx rf sl23, RdS.cellB rf (Ext.pres eB), RdS.cells rf, RdS.len hr5 sl36, RdS.idx hr5 sl36, RdS.cellB hr5 (Ext.pres eB), RdS.cells hr5, BoxAt.cell hb0_0, BoxAt.cell hb0_1, wrap_id]
     try simp -implicitDefEqProofs (disch := first | decide | assumption | omega) only [go_sem, RdS.len hdX sl22, RdS.idx hdX sl22, R1.intB hdX (Ext.pres eB), RdS.cells hdX, RdS.len hmX sl23, RdS.idx hmX sl23, RdS.cellB hmX (Ext.pres eB), RdS.cells hmX, RdS.len hdY sl22, RdS.idx hdY sl22, R1.intB hdY (Ext.pres eB), RdS.cells hdY, RdS.len hmY sl23, RdS.idx hmY sl23, RdS.cellB hmY (Ext.pres eB), RdS.cells hmY, RdS.len rf sl23, RdS.idx rf sl23, RdS.cellB rf (Ext.pres eB), RdS.cells rf, RdS.len hr5 sl36, RdS.idx hr5 sl36, RdS.cellB hr5 (Ext.pres eB), RdS.cells hr5, BoxAt.cell hb0_0, BoxAt.cell hb0_1, wrap_id]
     refine CallA.pure (size2_ok _ _ _ (RdS.pres hr5 (Ext.pres eB))) ?_
     try simp -implicitDefEqProofs (disch := first | decide | assumption | (simp (disch := decide) only [slotOf_zero, slotOf_succ, Option.map_some, puts_same, puts_ne, gv_bool, gv_undef, tt, tf, ft, ff, eq_self, if_true, if_false, Bool.false_eq_true, Bool.not_true, Bool.not_false]; done) | omega) only [go_sem, RdS.len hdX sl22, RdS.idx hdX sl22, R1.intB hdX (Ext.pres eB), RdS.cells hdX, RdS.len hmX sl23, RdS.idx hmX sl23, RdS.cellB hmX (Ext.pres eB), RdS.cells hmX, RdS.len hdY sl22, RdS.idx hdY sl22, R1.intB hdY (Ext.pres eB), RdS.cells hdY, RdS.len hmY sl23, RdS.idx hmY sl23, RdS.cellB hmY (Ext.pres eB), RdS.cells hmY, RdS.len rf sl23, RdS.idx rf sl23, RdS.cellB rf (Ext.pres eB), RdS.cells rf, RdS.len hr5 sl36, RdS.idx hr5 sl36, RdS.cellB hr5 (Ext.pres eB), RdS.cells hr5, BoxAt.cell hb0_0, BoxAt.cell hb0_1, wrap_id]
     refine plG_F (by simp (disch := decide) only [slotOf_zero, slotOf_succ, Option.map_some, puts_same, puts_ne, gv_bool, gv_undef, tt, tf, ft, ff, eq_self, if_true, if_false, Bool.false_eq_true, Bool.not_true, Bool.not_false]; rfl) (fun g6 => ?_) (fun g6 => ?_)
     ·try simp -implicitDefEqProofs (disch := first | decide | assumption | (simp (disch := decide) only [slotOf_zero, slotOf_succ, Option.map_some, puts_same, puts_ne, gv_bool, gv_undef, tt, tf, ft, ff, eq_self, if_true, if_false, Bool.false_eq_true, Bool.not_true, Bool.not_false, g6]; done) | omega) only [go_sem, fa30_0, ld2, ld30, RdS.len hdX sl22, RdS.idx hdX sl22, R1.intB hdX (Ext.pres eB), RdS.cells hdX, RdS.len hmX sl23, RdS.idx hmX sl23, RdS.cellB hmX (Ext.pres eB), RdS.cells hmX, RdS.len hdY sl22, RdS.idx hdY sl22, R1.intB hdY (Ext.pres eB), RdS.cells hdY, RdS.len hmY sl23, RdS.idx hmY sl23, RdS.cellB hmY (Ext.pres eB), RdS.cells hmY, RdS.len rf sl23, RdS.idx rf sl23, RdS.cellB rf (Ext.pres eB), RdS.cells rf, RdS.len hr5 sl36, RdS.idx hr5 sl36, RdS.cellB hr5 (Ext.pres eB), RdS.cells hr5, BoxAt.cell hb0_0, BoxAt.cell hb0_1, wrap_id, g6, eq_self, if_true, if_false, Bool.false_eq_true]
      try simp -implicitDefEqProofs (disch := first | decide | assumption | omega) only [go_sem, RdS.len hdX sl22, RdS.idx hdX sl22, R1.intB hdX (Ext.pres eB), RdS.cells hdX, RdS.len hmX sl23, RdS.idx hmX sl23, RdS.cellB hmX (Ext.pres eB), RdS.cells hmX, RdS.len hdY sl22, RdS.idx hdY sl22, R1.intB hdY (Ext.pres eB), RdS.cells hdY, RdS.len hmY sl23, RdS.idx hmY sl23, RdS.cellB hmY (Ext.pres eB), RdS.cells hmY, RdS.len rf sl23, RdS.idx rf sl23, RdS.cellB rf (Ext.pres eB), RdS.cells rf, RdS.len hr5 sl36, RdS.idx hr5 sl36, RdS.cellB hr5 (Ext.pres eB), RdS.cells hr5, BoxAt.cell hb0_0, BoxAt.cell hb0_1, wrap_id]
      refine CallA.mono (iDim_ok _ Y _ _ ⟨_, _, rfl, (RdS.pres hdY (Ext.pres eB)), (RdS.pres hmY (Ext.pres eB))⟩) ?_
      intro v_ h6_15
      rintro ⟨rfl, e6_15⟩
      replace hb0_0 := BoxAt.ext hb0_0 e6_15
      replace hb0_1 := BoxAt.ext hb0_1 e6_15
      have := Ext.size e6_15
      replace eB := Ext.trans eB e6_15
      replace cL2 := Ext.trans cL2 e6_15
      try simp (disch := decide) only [outv_some, outv_none, put_puts]
      refine plK_pres (Ext.pres e6_15) ?_
      try simp -implicitDefEqProofs (disch := first | decide | assumption | (simp (disch := decide) only [slotOf_zero, slotOf_succ, Option.map_some, puts_same, puts_ne, gv_bool, gv_undef, tt, tf, ft, ff, eq_self, if_true, if_false, Bool.false_eq_true, Bool.not_true, Bool.not_false, g6]; done) | omega) only [go_sem, RdS.len hdX sl22, RdS.idx hdX sl22, R1.intB hdX (Ext.pres eB), RdS.cells hdX, RdS.len hmX sl23, RdS.idx hmX sl23, RdS.cellB hmX (Ext.pres eB), RdS.cells hmX, RdS.len hdY sl22, RdS.idx hdY sl22, R1.intB hdY (Ext.pres eB), RdS.cells hdY, RdS.len hmY sl23, RdS.idx hmY sl23, RdS.cellB hmY (Ext.pres eB), RdS.cells hmY, RdS.len rf sl23, RdS.idx rf sl23, RdS.cellB rf (Ext.pres eB), RdS.cells rf, RdS.len hr5 sl36, RdS.idx hr5 sl36, RdS.cellB hr5 (Ext.pres eB), RdS.cells hr5, BoxAt.cell hb0_0, BoxAt.cell hb0_1, wrap_id, g6, eq_self, if_true, if_false, Bool.false_eq_true]
      try simp -implicitDefEqProofs (disch := first | decide | assumption | omega) only [go_sem, RdS.len hdX sl22, RdS.idx hdX sl22, R1.intB hdX (Ext.pres eB), RdS.cells hdX, RdS.len hmX sl23, RdS.idx hmX sl23, RdS.cellB hmX (Ext.pres eB), RdS.cells hmX, RdS.len hdY sl22, RdS.idx hdY sl22, R1.intB hdY (Ext.pres eB), RdS.cells hdY, RdS.len hmY sl23, RdS.idx hmY sl23, RdS.cellB hmY (Ext.pres eB), RdS.cells hmY, RdS.len rf sl23, RdS.idx rf sl23, RdS.cellB rf (Ext.pres eB), RdS.cells rf, RdS.len hr5 sl36, RdS.idx hr5 sl36, RdS.cellB hr5 (Ext.pres eB), RdS.cells hr5, BoxAt.cell hb0_0, BoxAt.cell hb0_1, wrap_id]
      refine CallA.mono (areRows_ok _ _ _ _ _ (RdS.pres hr5 (Ext.pres eB)) (by omega)) ?_
      intro v_ h6_17
      rintro ⟨rfl, e6_17⟩
      replace hb0_0 := BoxAt.ext hb0_0 e6_17
      replace hb0_1 := BoxAt.ext hb0_1 e6_17
      have := Ext.size e6_17
      replace eB := Ext.trans eB e6_17
      replace cL2 := Ext.trans cL2 e6_17
      try simp (disch := decide) only [outv_some, outv_none, put_puts]
      refine plK_pres (Ext.pres e6_17) ?_
      try simp -implicitDefEqProofs (disch := first | decide | assumption | (simp (disch := decide) only [slotOf_zero, slotOf_succ, Option.map_some, puts_same, puts_ne, gv_bool, gv_undef, tt, tf, ft, ff, eq_self, if_true, if_false, Bool.false_eq_true, Bool.not_true, Bool.not_false, g6]; done) | omega) only [go_sem, RdS.len hdX sl22, RdS.idx hdX sl22, R1.intB hdX (Ext.pres eB), RdS.cells hdX, RdS.len hmX sl23, RdS.idx hmX sl23, RdS.cellB hmX (Ext.pres eB), RdS.cells hmX, RdS.len hdY sl22, RdS.idx hdY sl22, R1.intB hdY (Ext.pres eB), RdS.cells hdY, RdS.len hmY sl23, RdS.idx hmY sl23, RdS.cellB hmY (Ext.pres eB), RdS.cells hmY, RdS.len rf sl23, RdS.idx rf sl23, RdS.cellB rf (Ext.pres eB), RdS.cells rf, RdS.len hr5 sl36, RdS.idx hr5 sl36, RdS.cellB hr5 (Ext.pres eB), RdS.cells hr5, BoxAt.cell hb0_0, BoxAt.cell hb0_1, wrap_id, g6, eq_self, if_true, if_false, Bool.false_eq_true]
      refine hK _ _ ?_
      clear hK K
      refine den_stop ?_
      refine ⟨?_, (Ext.trans e6_15 e6_17)⟩
      first | (simp (disch := decide) only [go_sem, g6, eq_self, Bool.true_and, Bool.and_true, Bool.false_and, Bool.and_false, Bool.true_or, Bool.or_true, Bool.false_or, Bool.or_false, if_true, if_false, Bool.false_eq_true]; done) | simp [HasL, sel, puts_at, g6]
     ·try simp -implicitDefEqProofs (disch := first | decide | assumption | (simp (disch := decide) only [slotOf_zero, slotOf_succ, Option.map_some, puts_same, puts_ne, gv_bool, gv_undef, tt, tf, ft, ff, eq_self, if_true, if_false, Bool.false_eq_true, Bool.not_true, Bool.not_false, g6]; done) | omega) only [go_sem, RdS.len hdX sl22, RdS.idx hdX sl22, R1.intB hdX (Ext.pres eB), RdS.cells hdX, RdS.len hmX sl23, RdS.idx hmX sl23, RdS.cellB hmX (Ext.pres eB), RdS.cells hmX, RdS.len hdY sl22, RdS.idx hdY sl22, R1.intB hdY (Ext.pres eB), RdS.cells hdY, RdS.len hmY sl23, RdS.idx hmY sl23, RdS.cellB hmY (Ext.pres eB), RdS.cells hmY, RdS.len rf sl23, RdS.idx rf sl23, RdS.cellB rf (Ext.pres eB), RdS.cells rf, RdS.len hr5 sl36, RdS.idx hr5 sl36, RdS.cellB hr5 (Ext.pres eB), RdS.cells hr5, BoxAt.cell hb0_0, BoxAt.cell hb0_1, wrap_id, g6, eq_self, if_true, if_false, Bool.false_eq_true]
      refine hK _ _ ?_
      clear hK K
      refine den_stop ?_
      refine ⟨?_, Ext.refl _⟩
      first | (simp (disch := decide) only [go_sem, g6, eq_self, Bool.true_and, Bool.and_true, Bool.false_and, Bool.and_false, Bool.true_or, Bool.or_true, Bool.false_or, Bool.or_false, if_true, if_false, Bool.false_eq_true]; done) | simp [HasL, sel, puts_at, g6]
    intro en7 h8 e9
    replace hb0_0 := BoxAt.ext hb0_0 e9
    replace hb0_1 := BoxAt.ext hb0_1 e9
    have := Ext.size e9
    replace eB := Ext.trans eB e9
    replace cL2 := Ext.trans cL2 e9
    simp (disch := decide) only [go_sem]
    refine den_cond rfl (fun c2 => ?_) (fun c2 => ?_)
    ·try simp only [decide_eq_true_eq, decide_eq_false_iff_not, beq_iff_eq, beq_eq_false_iff_ne, bne_iff_ne, ne_eq, Bool.not_eq_true', Bool.not_eq_false', Bool.and_eq_true, Bool.or_eq_true, bne_eq_false_iff_eq, Bool.or_eq_false_iff, Bool.and_eq_false_iff] at c2
     refine den_seq ?_
     refine den_region TTok ?_
     intro K hK
     simp -implicitDefEqProofs (disch := first | decide | assumption | omega) only [go_sem, RdS.len hdX sl22, RdS.idx hdX sl22, R1.intB hdX (Ext.pres eB), RdS.cells hdX, RdS.len hmX sl23, RdS.idx hmX sl23, RdS.cellB hmX (Ext.pres eB), RdS.cells hmX, RdS.len hdY sl22, RdS.idx hdY sl22, R1.intB hdY (Ext.pres eB), RdS.cells hdY, RdS.len hmY sl23, RdS.idx hmY sl23, RdS.cellB hmY (Ext.pres eB), RdS.cells hmY, RdS.len rf sl23, RdS.idx rf sl23, RdS.cellB rf (Ext.pres eB), RdS.cells rf, RdS.len hr5 sl36, RdS.idx hr5 sl36, RdS.cellB hr5 (Ext.pres eB), RdS.cells hr5, wrap_id]
     refine hK _ _ ?_
     clear hK K
     refine den_ret ?_
     simp (disch := decide) only [resP_1, puts_same, puts_ne]
     exact ⟨vbool (pdec_no fun hF => by
      have h1 := hF.at (n := n) (by omega)
      have h2 := (famAt_iff.1 (hF.rows n (by omega))).2
      rcases c2 with c | c
      ·exact c h1.1
      ·rw [h2] at c; cases c), eB⟩
    ·try simp only [decide_eq_true_eq, decide_eq_false_iff_not, beq_iff_eq, beq_eq_false_iff_ne, bne_iff_ne, ne_eq, Bool.not_eq_true', Bool.not_eq_false', Bool.and_eq_true, Bool.or_eq_true, bne_eq_false_iff_eq, Bool.or_eq_false_iff, Bool.and_eq_false_iff] at c2
     refine den_skip ?_
     refine den_blk ?_
     refine den_region TTok ?_
     intro K hK
     simp -implicitDefEqProofs (disch := first | decide | assumption | omega) only [go_sem, RdS.len hdX sl22, RdS.idx hdX sl22, R1.intB hdX (Ext.pres eB), RdS.cells hdX, RdS.len hmX sl23, RdS.idx hmX sl23, RdS.cellB hmX (Ext.pres eB), RdS.cells hmX, RdS.len hdY sl22, RdS.idx hdY sl22, R1.intB hdY (Ext.pres eB), RdS.cells hdY, RdS.len hmY sl23, RdS.idx hmY sl23, RdS.cellB hmY (Ext.pres eB), RdS.cells hmY, RdS.len rf sl23, RdS.idx rf sl23, RdS.cellB rf (Ext.pres eB), RdS.cells rf, RdS.len hr5 sl36, RdS.idx hr5 sl36, RdS.cellB hr5 (Ext.pres eB), RdS.cells hr5, BoxAt.cell hb0_0, BoxAt.cell hb0_1, wrap_id]
     refine hK _ _ ?_
     clear hK K
     refine den_stop ?_
     exact ⟨n + 1, by simp [HasL, puts_at], ⟨by omega, fun j hj => (Nat.lt_succ_iff_lt_or_eq.1 hj).elim (hz j) (fun e => by rw [e]; exact famAt_iff.2 c2), cL2⟩, by first | omega | (dsimp only; omega)⟩
   ·try simp only [decide_eq_true_eq, decide_eq_false_iff_not, beq_iff_eq, beq_eq_false_iff_ne, bne_iff_ne, ne_eq, Bool.not_eq_true', Bool.not_eq_false', Bool.and_eq_true, Bool.or_eq_true, bne_eq_false_iff_eq, Bool.or_eq_false_iff, Bool.and_eq_false_iff] at c1
    refine den_exit ?_
    refine denX_code ?_
    refine denX_stop ?_
    refine denX_hit ?_
    refine den_seq ?_
    refine den_region TTok ?_
    intro K hK
    simp -implicitDefEqProofs (disch := first | decide | assumption | omega) only [go_sem, RdS.len hdX sl22, RdS.idx hdX sl22, R1.intB hdX (Ext.pres eB), RdS.cells hdX, RdS.len hmX sl23, RdS.idx hmX sl23, RdS.cellB hmX (Ext.pres eB), RdS.cells hmX, RdS.len hdY sl22, RdS.idx hdY sl22, R1.intB hdY (Ext.pres eB), RdS.cells hdY, RdS.len hmY sl23, RdS.idx hmY sl23, RdS.cellB hmY (Ext.pres eB), RdS.cells hmY, RdS.len rf sl23, RdS.idx rf sl23, RdS.cellB rf (Ext.pres eB), RdS.cells rf, wrap_id]
    refine hK _ _ ?_
    clear hK K
    refine den_ret ?_
    simp (disch := decide) only [resP_1, puts_same, puts_ne]
    exact ⟨vbool (pdec_yes ⟨by omega, fun j hj => hz j (by omega)⟩), eB⟩

set_option maxRecDepth 100000 in
theorem sFam_ok (vX vY vf : Value) (X : Cx) (Y : Cx) (f : List (List (List Int))) (s : Int) (h : Heap) (rX : RC h vX X) (rY : RC h vY Y) (rf : R3 h vf f) (hX : IsC X) (hs : 0 ≤ s ∧ s ≤ 1) : CallA Try.prog 132 #[vX, vY, vf, .int .i64 s] h fun v' h' => v' = .bool (famP X Y f s) ∧ Ext h h' := by
 obtain ⟨vdX, vmX, rfl, hdX, hmX⟩ := rX
 have hledX := RdS.le hdX
 have hlemX := RdS.le hmX
 obtain ⟨vdY, vmY, rfl, hdY, hmY⟩ := rY
 have hledY := RdS.le hdY
 have hlemY := RdS.le hmY
 have hlef := RdS.le rf
 have hlen := hX.len
 have hpb := isP_bnd hX.p
 refine callA_intro TTok (args := [_, _, _, _]) Try.func132 (by kernel_rfl) rfl 85 rfl (by simp) [.tmp 8] rfl ?_
 simp only [idxs, Nat.reduceAdd]
 refine den_seq ?_
 refine den_region TTok ?_
 intro K hK
 simp -implicitDefEqProofs (disch := first | decide | assumption | omega) only [go_sem, RdS.len hdX sl22, RdS.idx hdX sl22, R1.intB hdX (HPres.refl _), RdS.cells hdX, RdS.len hmX sl23, RdS.idx hmX sl23, RdS.cellB hmX (HPres.refl _), RdS.cells hmX, RdS.len hdY sl22, RdS.idx hdY sl22, R1.intB hdY (HPres.refl _), RdS.cells hdY, RdS.len hmY sl23, RdS.idx hmY sl23, RdS.cellB hmY (HPres.refl _), RdS.cells hmY, RdS.len rf sl23, RdS.idx rf sl23, RdS.cellB rf (HPres.refl _), RdS.cells rf, wrap_id]
 refine op_box (cs := #[.int .i64 (X.p), vdX, vmX]) rfl ?_
 intro h0_0 e0_0 hb0_0 z0_0
 have := Ext.size e0_0
 have eB := e0_0
 have hfhb0_0 : Fresh h.size [h.size] := Fresh.one _
 have hlhb0_0 := one_lt (show h.size < h0_0.size by omega)
 try simp -implicitDefEqProofs (disch := first | decide | assumption | omega) only [go_sem, RdS.len hdX sl22, RdS.idx hdX sl22, R1.intB hdX (Ext.pres eB), RdS.cells hdX, RdS.len hmX sl23, RdS.idx hmX sl23, RdS.cellB hmX (Ext.pres eB), RdS.cells hmX, RdS.len hdY sl22, RdS.idx hdY sl22, R1.intB hdY (Ext.pres eB), RdS.cells hdY, RdS.len hmY sl23, RdS.idx hmY sl23, RdS.cellB hmY (Ext.pres eB), RdS.cells hmY, RdS.len rf sl23, RdS.idx rf sl23, RdS.cellB rf (Ext.pres eB), RdS.cells rf, BoxAt.cell hb0_0, wrap_id]
 refine op_box (cs := #[.int .i64 (Y.p), vdY, vmY]) rfl ?_
 intro h0_1 e0_1 hb0_1 z0_1
 replace hb0_0 := BoxAt.ext hb0_0 e0_1
 have := Ext.size e0_1
 replace eB := Ext.trans eB e0_1
 have hfhb0_1 : Fresh h0_0.size [h0_0.size] := Fresh.one _
 have hlhb0_1 := one_lt (show h0_0.size < h0_1.size by omega)
 try simp -implicitDefEqProofs (disch := first | decide | assumption | omega) only [go_sem, RdS.len hdX sl22, RdS.idx hdX sl22, R1.intB hdX (Ext.pres eB), RdS.cells hdX, RdS.len hmX sl23, RdS.idx hmX sl23, RdS.cellB hmX (Ext.pres eB), RdS.cells hmX, RdS.len hdY sl22, RdS.idx hdY sl22, R1.intB hdY (Ext.pres eB), RdS.cells hdY, RdS.len hmY sl23, RdS.idx hmY sl23, RdS.cellB hmY (Ext.pres eB), RdS.cells hmY, RdS.len rf sl23, RdS.idx rf sl23, RdS.cellB rf (Ext.pres eB), RdS.cells rf, BoxAt.cell hb0_0, BoxAt.cell hb0_1, wrap_id]
 refine hK _ _ ?_
 clear hK K
 refine den_seq ?_
 refine den_seq ?_
 refine den_region TTok ?_
 intro K hK
 simp -implicitDefEqProofs (disch := first | decide | assumption | omega) only [go_sem, fa30_1, ld22, RdS.len hdX sl22, RdS.idx hdX sl22, R1.intB hdX (Ext.pres eB), RdS.cells hdX, RdS.len hmX sl23, RdS.idx hmX sl23, RdS.cellB hmX (Ext.pres eB), RdS.cells hmX, RdS.len hdY sl22, RdS.idx hdY sl22, R1.intB hdY (Ext.pres eB), RdS.cells hdY, RdS.len hmY sl23, RdS.idx hmY sl23, RdS.cellB hmY (Ext.pres eB), RdS.cells hmY, RdS.len rf sl23, RdS.idx rf sl23, RdS.cellB rf (Ext.pres eB), RdS.cells rf, BoxAt.cell hb0_0, BoxAt.cell hb0_1, wrap_id]
 refine hK _ _ ?_
 clear hK K
 refine den_cond rfl (fun c0 => ?_) (fun c0 => ?_)
 ·try simp only [decide_eq_true_eq, decide_eq_false_iff_not, beq_iff_eq, beq_eq_false_iff_ne, bne_iff_ne, ne_eq, Bool.not_eq_true', Bool.not_eq_false', Bool.and_eq_true, Bool.or_eq_true, bne_eq_false_iff_eq, Bool.or_eq_false_iff, Bool.and_eq_false_iff] at c0
  refine den_seq ?_
  refine den_region TTok ?_
  intro K hK
  simp -implicitDefEqProofs (disch := first | decide | assumption | omega) only [go_sem, RdS.len hdX sl22, RdS.idx hdX sl22, R1.intB hdX (Ext.pres eB), RdS.cells hdX, RdS.len hmX sl23, RdS.idx hmX sl23, RdS.cellB hmX (Ext.pres eB), RdS.cells hmX, RdS.len hdY sl22, RdS.idx hdY sl22, R1.intB hdY (Ext.pres eB), RdS.cells hdY, RdS.len hmY sl23, RdS.idx hmY sl23, RdS.cellB hmY (Ext.pres eB), RdS.cells hmY, RdS.len rf sl23, RdS.idx rf sl23, RdS.cellB rf (Ext.pres eB), RdS.cells rf, wrap_id]
  refine hK _ _ ?_
  clear hK K
  refine den_ret ?_
  simp (disch := decide) only [resP_1, puts_same, puts_ne]
  exact ⟨vbool (pdec_no fun hF => c0 (by have := hF.len; omega)), eB⟩
 ·try simp only [decide_eq_true_eq, decide_eq_false_iff_not, beq_iff_eq, beq_eq_false_iff_ne, bne_iff_ne, ne_eq, Bool.not_eq_true', Bool.not_eq_false', Bool.and_eq_true, Bool.or_eq_true, bne_eq_false_iff_eq, Bool.or_eq_false_iff, Bool.and_eq_false_iff] at c0
  refine den_skip ?_
  refine den_seq ?_
  refine den_seq ?_
  refine den_region TTok ?_
  intro K hK
  simp -implicitDefEqProofs (disch := first | decide | assumption | omega) only [go_sem, RdS.len hdX sl22, RdS.idx hdX sl22, R1.intB hdX (Ext.pres eB), RdS.cells hdX, RdS.len hmX sl23, RdS.idx hmX sl23, RdS.cellB hmX (Ext.pres eB), RdS.cells hmX, RdS.len hdY sl22, RdS.idx hdY sl22, R1.intB hdY (Ext.pres eB), RdS.cells hdY, RdS.len hmY sl23, RdS.idx hmY sl23, RdS.cellB hmY (Ext.pres eB), RdS.cells hmY, RdS.len rf sl23, RdS.idx rf sl23, RdS.cellB rf (Ext.pres eB), RdS.cells rf, BoxAt.cell hb0_0, BoxAt.cell hb0_1, wrap_id]
  refine hK _ _ ?_
  clear hK K
  refine den_block ?_
  refine den_sel [9, 2, 3, 4, 5] ?_
  intro env_1
  simp only [go_sem]
  refine den_loopS (σ := Nat) (fun st_ => [(9, .int .i64 (st_ : Int))]) (fun st_ H => (st_ ≤ f.length) ∧ (∀ j, j < st_ → famAt X Y f s j = true) ∧ (Ext h0_1 H)) (fun st_ => f.length - st_) 0 ?_ ?_
  ·exact ⟨by simp, fun j hj => by omega, Ext.refl _⟩
  ·rintro n h4 ee3 ⟨hn, hz, cL2⟩
   replace hb0_0 := BoxAt.ext hb0_0 cL2
   replace hb0_1 := BoxAt.ext hb0_1 cL2
   have := Ext.size cL2
   replace eB := Ext.trans eB cL2
   simp only [List.cons_append, List.nil_append]
   refine den_seq ?_
   refine den_seq ?_
   refine den_region TTok ?_
   intro K hK
   simp -implicitDefEqProofs (disch := first | decide | assumption | omega) only [go_sem, RdS.len hdX sl22, RdS.idx hdX sl22, R1.intB hdX (Ext.pres eB), RdS.cells hdX, RdS.len hmX sl23, RdS.idx hmX sl23, RdS.cellB hmX (Ext.pres eB), RdS.cells hmX, RdS.len hdY sl22, RdS.idx hdY sl22, R1.intB hdY (Ext.pres eB), RdS.cells hdY, RdS.len hmY sl23, RdS.idx hmY sl23, RdS.cellB hmY (Ext.pres eB), RdS.cells hmY, RdS.len rf sl23, RdS.idx rf sl23, RdS.cellB rf (Ext.pres eB), RdS.cells rf, BoxAt.cell hb0_0, BoxAt.cell hb0_1, wrap_id]
   refine hK _ _ ?_
   clear hK K
   refine den_cond rfl (fun c1 => ?_) (fun c1 => ?_)
   ·try simp only [decide_eq_true_eq, decide_eq_false_iff_not, beq_iff_eq, beq_eq_false_iff_ne, bne_iff_ne, ne_eq, Bool.not_eq_true', Bool.not_eq_false', Bool.and_eq_true, Bool.or_eq_true, bne_eq_false_iff_eq, Bool.or_eq_false_iff, Bool.and_eq_false_iff] at c1
    refine den_skip ?_
    refine den_seq ?_
    refine den_block ?_
    refine den_seq ?_
    refine den_seq ?_
    refine den_draw TTok mixed [] [(0, true), (1, true), (2, true), (3, true), (4, true), (5, true), (6, true), (7, true), (8, true), (9, true), (10, true)] (by kernel_rfl) ?_
    intro K hK
    have hr5 := RdS.rowN rf n (by omega)
    have hlhr5 := RdS.le hr5
    simp -implicitDefEqProofs (disch := first | decide | assumption | omega) only [go_sem, fa30_1, ld36, ld22, ld2, RdS.len hdX sl22, RdS.idx hdX sl22, R1.intB hdX (Ext.pres eB), RdS.cells hdX, RdS.len hmX sl23, RdS.idx hmX sl23, RdS.cellB hmX (Ext.pres eB), RdS.cells hmX, RdS.len hdY sl22, RdS.idx hdY sl22, R1.intB hdY (Ext.pres eB), RdS.cells hdY, RdS.len hmY sl23, RdS.idx hmY sl23, RdS.cellB hmY (Ext.pres eB), RdS.cells hmY, RdS.len rf sl23, RdS.idx rf sl23, RdS.cellB rf (Ext.pres eB), RdS.cells rf, RdS.len hr5 sl36, RdS.idx hr5 sl36, RdS.cellB hr5 (Ext.pres eB), RdS.cells hr5, BoxAt.cell hb0_0, BoxAt.cell hb0_1, wrap_id]
    refine hK _ _ ?_
    clear hK K
    refine den_cond rfl (fun c2 => ?_) (fun c2 => ?_)
    ·try simp only [decide_eq_true_eq, decide_eq_false_iff_not, beq_iff_eq, beq_eq_false_iff_ne, bne_iff_ne, ne_eq, Bool.not_eq_true', Bool.not_eq_false', Bool.and_eq_true, Bool.or_eq_true, bne_eq_false_iff_eq, Bool.or_eq_false_iff, Bool.and_eq_false_iff] at c2
     refine den_seq ?_
     refine den_region TTok ?_
     intro K hK
     simp -implicitDefEqProofs (disch := first | decide | assumption | omega) only [go_sem, RdS.len hdX sl22, RdS.idx hdX sl22, R1.intB hdX (Ext.pres eB), RdS.cells hdX, RdS.len hmX sl23, RdS.idx hmX sl23, RdS.cellB hmX (Ext.pres eB), RdS.cells hmX, RdS.len hdY sl22, RdS.idx hdY sl22, R1.intB hdY (Ext.pres eB), RdS.cells hdY, RdS.len hmY sl23, RdS.idx hmY sl23, RdS.cellB hmY (Ext.pres eB), RdS.cells hmY, RdS.len rf sl23, RdS.idx rf sl23, RdS.cellB rf (Ext.pres eB), RdS.cells rf, RdS.len hr5 sl36, RdS.idx hr5 sl36, RdS.cellB hr5 (Ext.pres eB), RdS.cells hr5, wrap_id]
     refine hK _ _ ?_
     clear hK K
     refine den_ret ?_
     simp (disch := decide) only [resP_1, puts_same, puts_ne]
     exact ⟨vbool (pdec_no fun hF => c2 (hF.at (by omega)).1), eB⟩
    ·try simp only [decide_eq_true_eq, decide_eq_false_iff_not, beq_iff_eq, beq_eq_false_iff_ne, bne_iff_ne, ne_eq, Bool.not_eq_true', Bool.not_eq_false', Bool.and_eq_true, Bool.or_eq_true, bne_eq_false_iff_eq, Bool.or_eq_false_iff, Bool.and_eq_false_iff] at c2
     refine den_skip ?_
     refine den_seq ?_
     refine den_region TTok ?_
     intro K hK
     simp -implicitDefEqProofs (disch := first | decide | assumption | omega) only [go_sem, RdS.len hdX sl22, RdS.idx hdX sl22, R1.intB hdX (Ext.pres eB), RdS.cells hdX, RdS.len hmX sl23, RdS.idx hmX sl23, RdS.cellB hmX (Ext.pres eB), RdS.cells hmX, RdS.len hdY sl22, RdS.idx hdY sl22, R1.intB hdY (Ext.pres eB), RdS.cells hdY, RdS.len hmY sl23, RdS.idx hmY sl23, RdS.cellB hmY (Ext.pres eB), RdS.cells hmY, RdS.len rf sl23, RdS.idx rf sl23, RdS.cellB rf (Ext.pres eB), RdS.cells rf, RdS.len hr5 sl36, RdS.idx hr5 sl36, RdS.cellB hr5 (Ext.pres eB), RdS.cells hr5, BoxAt.cell hb0_0, BoxAt.cell hb0_1, wrap_id]
     refine hK _ _ ?_
     clear hK K
     refine den_block ?_
     refine den_sel [10, 2, 3, 4, 5, 9] ?_
     intro env_6
     simp only [go_sem]
     refine den_loopS (σ := Nat) (fun st_ => [(10, .int .i64 (st_ : Int))]) (fun st_ H => (st_ ≤ (f.getD n default).length) ∧ (((f.getD n default).take st_).all (isRow X.p (dimP Y ((n : Int) + s))) = true) ∧ (Ext h4 H)) (fun st_ => (f.getD n default).length - st_) 0 ?_ ?_
     ·exact ⟨by simp, by simp, Ext.refl _⟩
     ·rintro i h9 ee8 ⟨hi, ha, cL7⟩
      replace hb0_0 := BoxAt.ext hb0_0 cL7
      replace hb0_1 := BoxAt.ext hb0_1 cL7
      have := Ext.size cL7
      replace eB := Ext.trans eB cL7
      replace cL2 := Ext.trans cL2 cL7
      simp only [List.cons_append, List.nil_append]
      refine den_seq ?_
      refine den_seq ?_
      refine den_region TTok ?_
      intro K hK
      have hr10 := RdS.rowN rf n (by omega)
      have hlhr10 := RdS.le hr10
      simp -implicitDefEqProofs (disch := first | decide | assumption | omega) only [go_sem, ld36, RdS.len hdX sl22, RdS.idx hdX sl22, R1.intB hdX (Ext.pres eB), RdS.cells hdX, RdS.len hmX sl23, RdS.idx hmX sl23, RdS.cellB hmX (Ext.pres eB), RdS.cells hmX, RdS.len hdY sl22, RdS.idx hdY sl22, R1.intB hdY (Ext.pres eB), RdS.cells hdY, RdS.len hmY sl23, RdS.idx hmY sl23, RdS.cellB hmY (Ext.pres eB), RdS.cells hmY, RdS.len rf sl23, RdS.idx rf sl23, RdS.cellB rf (Ext.pres eB), RdS.cells rf, RdS.len hr5 sl36, RdS.idx hr5 sl36, RdS.cellB hr5 (Ext.pres eB), RdS.cells hr5, RdS.len hr10 sl36, RdS.idx hr10 sl36, RdS.cellB hr10 (Ext.pres eB), RdS.cells hr10, BoxAt.cell hb0_0, BoxAt.cell hb0_1, wrap_id]
      refine hK _ _ ?_
      clear hK K
      refine den_cond rfl (fun c3 => ?_) (fun c3 => ?_)
      ·try simp only [decide_eq_true_eq, decide_eq_false_iff_not, beq_iff_eq, beq_eq_false_iff_ne, bne_iff_ne, ne_eq, Bool.not_eq_true', Bool.not_eq_false', Bool.and_eq_true, Bool.or_eq_true, bne_eq_false_iff_eq, Bool.or_eq_false_iff, Bool.and_eq_false_iff] at c3
       refine den_skip ?_
       refine den_seq ?_
       refine den_block ?_
       refine den_seq ?_
       refine den_seq ?_
       refine den_draw TTok mixed [] [(0, true), (1, true), (2, true), (3, true), (4, true), (5, true), (6, true), (7, true), (8, true), (9, true), (10, true), (11, true), (12, false), (13, true)] (by kernel_rfl) ?_
       intro K hK
       have hr11 := RdS.rowN rf n (by omega)
       have hlhr11 := RdS.le hr11
       have hr12 := RdS.rowN hr11 i (by omega)
       have hlhr12 := RdS.le hr12
       simp -implicitDefEqProofs (disch := first | decide | assumption | omega) only [go_sem, ld36, ld22, ld30, RdS.len hdX sl22, RdS.idx hdX sl22, R1.intB hdX (Ext.pres eB), RdS.cells hdX, RdS.len hmX sl23, RdS.idx hmX sl23, RdS.cellB hmX (Ext.pres eB), RdS.cells hmX, RdS.len hdY sl22, RdS.idx hdY sl22, R1.intB hdY (Ext.pres eB), RdS.cells hdY, RdS.len hmY sl23, RdS.idx hmY sl23, RdS.cellB hmY (Ext.pres eB), RdS.cells hmY, RdS.len rf sl23, RdS.idx rf sl23, RdS.cellB rf (Ext.pres eB), RdS.cells rf, RdS.len hr5 sl36, RdS.idx hr5 sl36, RdS.cellB hr5 (Ext.pres eB), RdS.cells hr5, RdS.len hr10 sl36, RdS.idx hr10 sl36, RdS.cellB hr10 (Ext.pres eB), RdS.cells hr10, RdS.len hr11 sl36, RdS.idx hr11 sl36, RdS.cellB hr11 (Ext.pres eB), RdS.cells hr11, RdS.len hr12 sl22, RdS.idx hr12 sl22, R1.intB hr12 (Ext.pres eB), RdS.cells hr12, BoxAt.cell hb0_0, BoxAt.cell hb0_1, wrap_id]
       try simp -implicitDefEqProofs (disch := first | decide | assumption | omega) only [go_sem, RdS.len hdX sl22, RdS.idx hdX sl22, R1.intB hdX (Ext.pres eB), RdS.cells hdX, RdS.len hmX sl23, RdS.idx hmX sl23, RdS.cellB hmX (Ext.pres eB), RdS.cells hmX, RdS.len hdY sl22, RdS.idx hdY sl22, R1.intB hdY (Ext.pres eB), RdS.cells hdY, RdS.len hmY sl23, RdS.idx hmY sl23, RdS.cellB hmY (Ext.pres eB), RdS.cells hmY, RdS.len rf sl23, RdS.idx rf sl23, RdS.cellB rf (Ext.pres eB), RdS.cells rf, RdS.len hr5 sl36, RdS.idx hr5 sl36, RdS.cellB hr5 (Ext.pres eB), RdS.cells hr5, RdS.len hr10 sl36, RdS.idx hr10 sl36, RdS.cellB hr10 (Ext.pres eB), RdS.cells hr10, RdS.len hr11 sl36, RdS.idx hr11 sl36, RdS.cellB hr11 (Ext.pres eB), RdS.cells hr11, RdS.len hr12 sl22, RdS.idx hr12 sl22, R1.intB hr12 (Ext.pres eB), RdS.cells hr12, BoxAt.cell hb0_0, BoxAt.cell hb0_1, wrap_id]
       refine CallA.mono (sDim_ok _ Y _ _ ⟨_, _, rfl, (RdS.pres hdY (Ext.pres eB)), (RdS.pres hmY (Ext.pres eB))⟩) ?_
       intro v_ h11_12
       rintro ⟨rfl, e11_12⟩
       replace hb0_0 := BoxAt.ext hb0_0 e11_12
       replace hb0_1 := BoxAt.ext hb0_1 e11_12
       have := Ext.size e11_12
       replace eB := Ext.trans eB e11_12
       replace cL2 := Ext.trans cL2 e11_12
       replace cL7 := Ext.trans cL7 e11_12
       try simp (disch := decide) only [outv_some, outv_none, put_puts]
       refine plK_pres (Ext.pres e11_12) ?_
       try simp -implicitDefEqProofs (disch := first | decide | assumption | omega) only [go_sem, RdS.len hdX sl22, RdS.idx hdX sl22, R1.intB hdX (Ext.pres eB), RdS.cells hdX, RdS.len hmX sl23, RdS.idx hmX sl23, RdS.cellB hmX (Ext.pres eB), RdS.cells hmX, RdS.len hdY sl22, RdS.idx hdY sl22, R1.intB hdY (Ext.pres eB), RdS.cells hdY, RdS.len hmY sl23, RdS.idx hmY sl23, RdS.cellB hmY (Ext.pres eB), RdS.cells hmY, RdS.len rf sl23, RdS.idx rf sl23, RdS.cellB rf (Ext.pres eB), RdS.cells rf, RdS.len hr5 sl36, RdS.idx hr5 sl36, RdS.cellB hr5 (Ext.pres eB), RdS.cells hr5, RdS.len hr10 sl36, RdS.idx hr10 sl36, RdS.cellB hr10 (Ext.pres eB), RdS.cells hr10, RdS.len hr11 sl36, RdS.idx hr11 sl36, RdS.cellB hr11 (Ext.pres eB), RdS.cells hr11, RdS.len hr12 sl22, RdS.idx hr12 sl22, R1.intB hr12 (Ext.pres eB), RdS.cells hr12, BoxAt.cell hb0_0, BoxAt.cell hb0_1, wrap_id]
       refine hK _ _ ?_
       clear hK K
       refine den_cond rfl (fun c4 => ?_) (fun c4 => ?_)
       ·try simp only [decide_eq_true_eq, decide_eq_false_iff_not, beq_iff_eq, beq_eq_false_iff_ne, bne_iff_ne, ne_eq, Bool.not_eq_true', Bool.not_eq_false', Bool.and_eq_true, Bool.or_eq_true, bne_eq_false_iff_eq, Bool.or_eq_false_iff, Bool.and_eq_false_iff] at c4
        refine den_seq ?_
        refine den_region TTok ?_
        intro K hK
        simp -implicitDefEqProofs (disch := first | decide | assumption | omega) only [go_sem, RdS.len hdX sl22, RdS.idx hdX sl22, R1.intB hdX (Ext.pres eB), RdS.cells hdX, RdS.len hmX sl23, RdS.idx hmX sl23, RdS.cellB hmX (Ext.pres eB), RdS.cells hmX, RdS.len hdY sl22, RdS.idx hdY sl22, R1.intB hdY (Ext.pres eB), RdS.cells hdY, RdS.len hmY sl23, RdS.idx hmY sl23, RdS.cellB hmY (Ext.pres eB), RdS.cells hmY, RdS.len rf sl23, RdS.idx rf sl23, RdS.cellB rf (Ext.pres eB), RdS.cells rf, RdS.len hr5 sl36, RdS.idx hr5 sl36, RdS.cellB hr5 (Ext.pres eB), RdS.cells hr5, RdS.len hr10 sl36, RdS.idx hr10 sl36, RdS.cellB hr10 (Ext.pres eB), RdS.cells hr10, RdS.len hr11 sl36, RdS.idx hr11 sl36, RdS.cellB hr11 (Ext.pres eB), RdS.cells hr11, RdS.len hr12 sl22, RdS.idx hr12 sl22, R1.intB hr12 (Ext.pres eB), RdS.cells hr12, wrap_id]
        refine hK _ _ ?_
        clear hK K
        refine den_ret ?_
        simp (disch := decide) only [resP_1, puts_same, puts_ne]
        exact ⟨vbool (pdec_no fun hF => c4 (isRow_iff.1 (hF.row (by omega) (by omega))).1), eB⟩
       ·try simp only [decide_eq_true_eq, decide_eq_false_iff_not, beq_iff_eq, beq_eq_false_iff_ne, bne_iff_ne, ne_eq, Bool.not_eq_true', Bool.not_eq_false', Bool.and_eq_true, Bool.or_eq_true, bne_eq_false_iff_eq, Bool.or_eq_false_iff, Bool.and_eq_false_iff] at c4
        refine den_skip ?_
        refine den_seq ?_
        refine den_region TTok ?_
        intro K hK
        simp -implicitDefEqProofs (disch := first | decide | assumption | omega) only [go_sem, RdS.len hdX sl22, RdS.idx hdX sl22, R1.intB hdX (Ext.pres eB), RdS.cells hdX, RdS.len hmX sl23, RdS.idx hmX sl23, RdS.cellB hmX (Ext.pres eB), RdS.cells hmX, RdS.len hdY sl22, RdS.idx hdY sl22, R1.intB hdY (Ext.pres eB), RdS.cells hdY, RdS.len hmY sl23, RdS.idx hmY sl23, RdS.cellB hmY (Ext.pres eB), RdS.cells hmY, RdS.len rf sl23, RdS.idx rf sl23, RdS.cellB rf (Ext.pres eB), RdS.cells rf, RdS.len hr5 sl36, RdS.idx hr5 sl36, RdS.cellB hr5 (Ext.pres eB), RdS.cells hr5, RdS.len hr10 sl36, RdS.idx hr10 sl36, RdS.cellB hr10 (Ext.pres eB), RdS.cells hr10, RdS.len hr11 sl36, RdS.idx hr11 sl36, RdS.cellB hr11 (Ext.pres eB), RdS.cells hr11, RdS.len hr12 sl22, RdS.idx hr12 sl22, R1.intB hr12 (Ext.pres eB), RdS.cells hr12, BoxAt.cell hb0_0, BoxAt.cell hb0_1, wrap_id]
        refine hK _ _ ?_
        clear hK K
        refine den_block ?_
        refine den_sel [11, 2, 3, 4, 5, 9, 10] ?_
        intro env_13
        simp only [go_sem]
        refine den_loopP (σ := Nat) (fun st_ => [(11, .int .i64 (st_ : Int))]) (fun st_ => (st_ ≤ ((f.getD n default).getD i default).length) ∧ ((((f.getD n default).getD i default).take st_).all (fun x => in3 x 0 (X.p - 1)) = true)) (fun st_ => ((f.getD n default).getD i default).length - st_) 0 ?_ ?_
        ·exact ⟨by simp, by simp⟩
        ·rintro m ee14 ⟨hm, hb⟩
         simp only [List.cons_append, List.nil_append]
         refine den_seq ?_
         refine den_seq ?_
         refine den_region TTok ?_
         intro K hK
         have hr16 := RdS.rowN rf n (by omega)
         have hlhr16 := RdS.le hr16
         have hr17 := RdS.rowN hr16 i (by omega)
         have hlhr17 := RdS.le hr17
         simp -implicitDefEqProofs (disch := first | decide | assumption | omega) only [go_sem, ld36, ld22, RdS.len hdX sl22, RdS.idx hdX sl22, R1.intB hdX (Ext.pres eB), RdS.cells hdX, RdS.len hmX sl23, RdS.idx hmX sl23, RdS.cellB hmX (Ext.pres eB), RdS.cells hmX, RdS.len hdY sl22, RdS.idx hdY sl22, R1.intB hdY (Ext.pres eB), RdS.cells hdY, RdS.len hmY sl23, RdS.idx hmY sl23, RdS.cellB hmY (Ext.pres eB), RdS.cells hmY, RdS.len rf sl23, RdS.idx rf sl23, RdS.cellB rf (Ext.pres eB), RdS.cells rf, RdS.len hr5 sl36, RdS.idx hr5 sl36, RdS.cellB hr5 (Ext.pres eB), RdS.cells hr5, RdS.len hr10 sl36, RdS.idx hr10 sl36, RdS.cellB hr10 (Ext.pres eB), RdS.cells hr10, RdS.len hr11 sl36, RdS.idx hr11 sl36, RdS.cellB hr11 (Ext.pres eB), RdS.cells hr11, RdS.len hr12 sl22, RdS.idx hr12 sl22, R1.intB hr12 (Ext.pres eB), RdS.cells hr12, RdS.len hr16 sl36, RdS.idx hr16 sl36, RdS.cellB hr16 (Ext.pres eB), RdS.cells hr16, RdS.len hr17 sl22, RdS.idx hr17 sl22, R1.intB hr17 (Ext.pres eB), RdS.cells hr17, BoxAt.cell hb0_0, BoxAt.cell hb0_1, wrap_id]
         refine hK _ _ ?_
         clear hK K
         refine den_cond rfl (fun c5 => ?_) (fun c5 => ?_)
         ·try simp only [decide_eq_true_eq, decide_eq_false_iff_not, beq_iff_eq, beq_eq_false_iff_ne, bne_iff_ne, ne_eq, Bool.not_eq_true', Bool.not_eq_false', Bool.and_eq_true, Bool.or_eq_true, bne_eq_false_iff_eq, Bool.or_eq_false_iff, Bool.and_eq_false_iff] at c5
          refine den_skip ?_
          refine den_seq ?_
          refine den_block ?_
          refine den_seq ?_
          refine den_draw TTok mixed [] [(0, true), (1, true), (2, true), (3, true), (4, true), (5, true), (6, true), (7, true), (8, true), (9, true), (10, true), (11, true), (12, true), (13, false), (14, true)] (by kernel_rfl) ?_
          intro K hK
          have hr18 := RdS.rowN rf n (by omega)
          have hlhr18 := RdS.le hr18
          have hr19 := RdS.rowN hr18 i (by omega)
          have hlhr19 := RdS.le hr19
          simp -implicitDefEqProofs (disch := first | decide | assumption | omega) only [go_sem, fa30_0, ld36, ld22, ld2, RdS.len hdX sl22, RdS.idx hdX sl22, R1.intB hdX (Ext.pres eB), RdS.cells hdX, RdS.len hmX sl23, RdS.idx hmX sl23, RdS.cellB hmX (Ext.pres eB), RdS.cells hmX, RdS.len hdY sl22, RdS.idx hdY sl22, R1.intB hdY (Ext.pres eB), RdS.cells hdY, RdS.len hmY sl23, RdS.idx hmY sl23, RdS.cellB hmY (Ext.pres eB), RdS.cells hmY, RdS.len rf sl23, RdS.idx rf sl23, RdS.cellB rf (Ext.pres eB), RdS.cells rf, RdS.len hr5 sl36, RdS.idx hr5 sl36, RdS.cellB hr5 (Ext.pres eB), RdS.cells hr5, RdS.len hr10 sl36, RdS.idx hr10 sl36, RdS.cellB hr10 (Ext.pres eB), RdS.cells hr10, RdS.len hr11 sl36, RdS.idx hr11 sl36, RdS.cellB hr11 (Ext.pres eB), RdS.cells hr11, RdS.len hr12 sl22, RdS.idx hr12 sl22, R1.intB hr12 (Ext.pres eB), RdS.cells hr12, RdS.len hr16 sl36, RdS.idx hr16 sl36, RdS.cellB hr16 (Ext.pres eB), RdS.cells hr16, RdS.len hr17 sl22, RdS.idx hr17 sl22, R1.intB hr17 (Ext.pres eB), RdS.cells hr17, RdS.len hr18 sl36, RdS.idx hr18 sl36, RdS.cellB hr18 (Ext.pres eB), RdS.cells hr18, RdS.len hr19 sl22, RdS.idx hr19 sl22, R1.intB hr19 (Ext.pres eB), RdS.cells hr19, BoxAt.cell hb0_0, BoxAt.cell hb0_1, wrap_id]
          try simp -implicitDefEqProofs (disch := first | decide | assumption | omega) only [go_sem, RdS.len hdX sl22, RdS.idx hdX sl22, R1.intB hdX (Ext.pres eB), RdS.cells hdX, RdS.len hmX sl23, RdS.idx hmX sl23, RdS.cellB hmX (Ext.pres eB), RdS.cells hmX, RdS.len hdY sl22, RdS.idx hdY sl22, R1.intB hdY (Ext.pres eB), RdS.cells hdY, RdS.len hmY sl23, RdS.idx hmY sl23, RdS.cellB hmY (Ext.pres eB), RdS.cells hmY, RdS.len rf sl23, RdS.idx rf sl23, RdS.cellB rf (Ext.pres eB), RdS.cells rf, RdS.len hr5 sl36, RdS.idx hr5 sl36, RdS.cellB hr5 (Ext.pres eB), RdS.cells hr5, RdS.len hr10 sl36, RdS.idx hr10 sl36, RdS.cellB hr10 (Ext.pres eB), RdS.cells hr10, RdS.len hr11 sl36, RdS.idx hr11 sl36, RdS.cellB hr11 (Ext.pres eB), RdS.cells hr11, RdS.len hr12 sl22, RdS.idx hr12 sl22, R1.intB hr12 (Ext.pres eB), RdS.cells hr12, RdS.len hr16 sl36, RdS.idx hr16 sl36, RdS.cellB hr16 (Ext.pres eB), RdS.cells hr16, RdS.len hr17 sl22, RdS.idx hr17 sl22, R1.intB hr17 (Ext.pres eB), RdS.cells hr17, RdS.len hr18 sl36, RdS.idx hr18 sl36, RdS.cellB hr18 (Ext.pres eB), RdS.cells hr18, RdS.len hr19 sl22, RdS.idx hr19 sl22, R1.intB hr19 (Ext.pres eB), RdS.cells hr19, BoxAt.cell hb0_0, BoxAt.cell hb0_1, wrap_id]
          refine CallA.pure (sIn_ok _ _ _ _) ?_
          try simp -implicitDefEqProofs (disch := first | decide | assumption | omega) only [go_sem, RdS.len hdX sl22, RdS.idx hdX sl22, R1.intB hdX (Ext.pres eB), RdS.cells hdX, RdS.len hmX sl23, RdS.idx hmX sl23, RdS.cellB hmX (Ext.pres eB), RdS.cells hmX, RdS.len hdY sl22, RdS.idx hdY sl22, R1.intB hdY (Ext.pres eB), RdS.cells hdY, RdS.len hmY sl23, RdS.idx hmY sl23, RdS.cellB hmY (Ext.pres eB), RdS.cells hmY, RdS.len rf sl23, RdS.idx rf sl23, RdS.cellB rf (Ext.pres eB), RdS.cells rf, RdS.len hr5 sl36, RdS.idx hr5 sl36, RdS.cellB hr5 (Ext.pres eB), RdS.cells hr5, RdS.len hr10 sl36, RdS.idx hr10 sl36, RdS.cellB hr10 (Ext.pres eB), RdS.cells hr10, RdS.len hr11 sl36, RdS.idx hr11 sl36, RdS.cellB hr11 (Ext.pres eB), RdS.cells hr11, RdS.len hr12 sl22, RdS.idx hr12 sl22, R1.intB hr12 (Ext.pres eB), RdS.cells hr12, RdS.len hr16 sl36, RdS.idx hr16 sl36, RdS.cellB hr16 (Ext.pres eB), RdS.cells hr16, RdS.len hr17 sl22, RdS.idx hr17 sl22, R1.intB hr17 (Ext.pres eB), RdS.cells hr17, RdS.len hr18 sl36, RdS.idx hr18 sl36, RdS.cellB hr18 (Ext.pres eB), RdS.cells hr18, RdS.len hr19 sl22, RdS.idx hr19 sl22, R1.intB hr19 (Ext.pres eB), RdS.cells hr19, BoxAt.cell hb0_0, BoxAt.cell hb0_1, wrap_id]
          refine hK _ _ ?_
          clear hK K
          refine den_cond rfl (fun c6 => ?_) (fun c6 => ?_)
          ·try simp only [decide_eq_true_eq, decide_eq_false_iff_not, beq_iff_eq, beq_eq_false_iff_ne, bne_iff_ne, ne_eq, Bool.not_eq_true', Bool.not_eq_false', Bool.and_eq_true, Bool.or_eq_true, bne_eq_false_iff_eq, Bool.or_eq_false_iff, Bool.and_eq_false_iff] at c6
           refine den_seq ?_
           refine den_region TTok ?_
           intro K hK
           simp -implicitDefEqProofs (disch := first | decide | assumption | omega) only [go_sem, RdS.len hdX sl22, RdS.idx hdX sl22, R1.intB hdX (Ext.pres eB), RdS.cells hdX, RdS.len hmX sl23, RdS.idx hmX sl23, RdS.cellB hmX (Ext.pres eB), RdS.cells hmX, RdS.len hdY sl22, RdS.idx hdY sl22, R1.intB hdY (Ext.pres eB), RdS.cells hdY, RdS.len hmY sl23, RdS.idx hmY sl23, RdS.cellB hmY (Ext.pres eB), RdS.cells hmY, RdS.len rf sl23, RdS.idx rf sl23, RdS.cellB rf (Ext.pres eB), RdS.cells rf, RdS.len hr5 sl36, RdS.idx hr5 sl36, RdS.cellB hr5 (Ext.pres eB), RdS.cells hr5, RdS.len hr10 sl36, RdS.idx hr10 sl36, RdS.cellB hr10 (Ext.pres eB), RdS.cells hr10, RdS.len hr11 sl36, RdS.idx hr11 sl36, RdS.cellB hr11 (Ext.pres eB), RdS.cells hr11, RdS.len hr12 sl22, RdS.idx hr12 sl22, R1.intB hr12 (Ext.pres eB), RdS.cells hr12, RdS.len hr16 sl36, RdS.idx hr16 sl36, RdS.cellB hr16 (Ext.pres eB), RdS.cells hr16, RdS.len hr17 sl22, RdS.idx hr17 sl22, R1.intB hr17 (Ext.pres eB), RdS.cells hr17, RdS.len hr18 sl36, RdS.idx hr18 sl36, RdS.cellB hr18 (Ext.pres eB), RdS.cells hr18, RdS.len hr19 sl22, RdS.idx hr19 sl22, R1.intB hr19 (Ext.pres eB), RdS.cells hr19, wrap_id]
           refine hK _ _ ?_
           clear hK K
           refine den_ret ?_
           simp (disch := decide) only [resP_1, puts_same, puts_ne]
           exact ⟨vbool (pdec_no fun hF => by
            have h := all_at (d := 0) (k := m) (isRow_all (hF.row (n := n) (i := i) (by omega) (by omega))) (by omega)
            have c := c6
            simp only [Bool.not_eq_true, h] at c
            cases c), eB⟩
          ·try simp only [decide_eq_true_eq, decide_eq_false_iff_not, beq_iff_eq, beq_eq_false_iff_ne, bne_iff_ne, ne_eq, Bool.not_eq_true', Bool.not_eq_false', Bool.and_eq_true, Bool.or_eq_true, bne_eq_false_iff_eq, Bool.or_eq_false_iff, Bool.and_eq_false_iff] at c6
           refine den_skip ?_
           refine den_blk ?_
           refine den_region TTok ?_
           intro K hK
           simp -implicitDefEqProofs (disch := first | decide | assumption | omega) only [go_sem, RdS.len hdX sl22, RdS.idx hdX sl22, R1.intB hdX (Ext.pres eB), RdS.cells hdX, RdS.len hmX sl23, RdS.idx hmX sl23, RdS.cellB hmX (Ext.pres eB), RdS.cells hmX, RdS.len hdY sl22, RdS.idx hdY sl22, R1.intB hdY (Ext.pres eB), RdS.cells hdY, RdS.len hmY sl23, RdS.idx hmY sl23, RdS.cellB hmY (Ext.pres eB), RdS.cells hmY, RdS.len rf sl23, RdS.idx rf sl23, RdS.cellB rf (Ext.pres eB), RdS.cells rf, RdS.len hr5 sl36, RdS.idx hr5 sl36, RdS.cellB hr5 (Ext.pres eB), RdS.cells hr5, RdS.len hr10 sl36, RdS.idx hr10 sl36, RdS.cellB hr10 (Ext.pres eB), RdS.cells hr10, RdS.len hr11 sl36, RdS.idx hr11 sl36, RdS.cellB hr11 (Ext.pres eB), RdS.cells hr11, RdS.len hr12 sl22, RdS.idx hr12 sl22, R1.intB hr12 (Ext.pres eB), RdS.cells hr12, RdS.len hr16 sl36, RdS.idx hr16 sl36, RdS.cellB hr16 (Ext.pres eB), RdS.cells hr16, RdS.len hr17 sl22, RdS.idx hr17 sl22, R1.intB hr17 (Ext.pres eB), RdS.cells hr17, RdS.len hr18 sl36, RdS.idx hr18 sl36, RdS.cellB hr18 (Ext.pres eB), RdS.cells hr18, RdS.len hr19 sl22, RdS.idx hr19 sl22, R1.intB hr19 (Ext.pres eB), RdS.cells hr19, BoxAt.cell hb0_0, BoxAt.cell hb0_1, wrap_id]
           refine hK _ _ ?_
           clear hK K
           refine den_stop ?_
           exact ⟨m + 1, by simp [HasL, puts_at], ⟨rfl, by omega, all_step (d := 0) (by omega) hb (by simpa using c6)⟩, by first | omega | (dsimp only; omega)⟩
         ·try simp only [decide_eq_true_eq, decide_eq_false_iff_not, beq_iff_eq, beq_eq_false_iff_ne, bne_iff_ne, ne_eq, Bool.not_eq_true', Bool.not_eq_false', Bool.and_eq_true, Bool.or_eq_true, bne_eq_false_iff_eq, Bool.or_eq_false_iff, Bool.and_eq_false_iff] at c5
          refine den_exit ?_
          refine denX_code ?_
          refine denX_stop ?_
          refine denX_hit ?_
          refine den_blk ?_
          refine den_region TTok ?_
          intro K hK
          simp -implicitDefEqProofs (disch := first | decide | assumption | omega) only [go_sem, RdS.len hdX sl22, RdS.idx hdX sl22, R1.intB hdX (Ext.pres eB), RdS.cells hdX, RdS.len hmX sl23, RdS.idx hmX sl23, RdS.cellB hmX (Ext.pres eB), RdS.cells hmX, RdS.len hdY sl22, RdS.idx hdY sl22, R1.intB hdY (Ext.pres eB), RdS.cells hdY, RdS.len hmY sl23, RdS.idx hmY sl23, RdS.cellB hmY (Ext.pres eB), RdS.cells hmY, RdS.len rf sl23, RdS.idx rf sl23, RdS.cellB rf (Ext.pres eB), RdS.cells rf, RdS.len hr5 sl36, RdS.idx hr5 sl36, RdS.cellB hr5 (Ext.pres eB), RdS.cells hr5, RdS.len hr10 sl36, RdS.idx hr10 sl36, RdS.cellB hr10 (Ext.pres eB), RdS.cells hr10, RdS.len hr11 sl36, RdS.idx hr11 sl36, RdS.cellB hr11 (Ext.pres eB), RdS.cells hr11, RdS.len hr12 sl22, RdS.idx hr12 sl22, R1.intB hr12 (Ext.pres eB), RdS.cells hr12, RdS.len hr16 sl36, RdS.idx hr16 sl36, RdS.cellB hr16 (Ext.pres eB), RdS.cells hr16, RdS.len hr17 sl22, RdS.idx hr17 sl22, R1.intB hr17 (Ext.pres eB), RdS.cells hr17, BoxAt.cell hb0_0, BoxAt.cell hb0_1, wrap_id]
          refine hK _ _ ?_
          clear hK K
          refine den_stop ?_
          exact ⟨i + 1, by simp [HasL, puts_at], ⟨by omega, all_step (d := default) (by omega) ha (by rw [isRow, decide_eq_true c4, all_end (by omega) hb]; rfl), cL7⟩, by first | omega | (dsimp only; omega)⟩
      ·try simp only [decide_eq_true_eq, decide_eq_false_iff_not, beq_iff_eq, beq_eq_false_iff_ne, bne_iff_ne, ne_eq, Bool.not_eq_true', Bool.not_eq_false', Bool.and_eq_true, Bool.or_eq_true, bne_eq_false_iff_eq, Bool.or_eq_false_iff, Bool.and_eq_false_iff] at c3
       refine den_exit ?_
       refine denX_code ?_
       refine denX_stop ?_
       refine denX_hit ?_
       refine den_blk ?_
       refine den_region TTok ?_
       intro K hK
       simp -implicitDefEqProofs (disch := first | decide | assumption | omega) only [go_sem, RdS.len hdX sl22, RdS.idx hdX sl22, R1.intB hdX (Ext.pres eB), RdS.cells hdX, RdS.len hmX sl23, RdS.idx hmX sl23, RdS.cellB hmX (Ext.pres eB), RdS.cells hmX, RdS.len hdY sl22, RdS.idx hdY sl22, R1.intB hdY (Ext.pres eB), RdS.cells hdY, RdS.len hmY sl23, RdS.idx hmY sl23, RdS.cellB hmY (Ext.pres eB), RdS.cells hmY, RdS.len rf sl23, RdS.idx rf sl23, RdS.cellB rf (Ext.pres eB), RdS.cells rf, RdS.len hr5 sl36, RdS.idx hr5 sl36, RdS.cellB hr5 (Ext.pres eB), RdS.cells hr5, RdS.len hr10 sl36, RdS.idx hr10 sl36, RdS.cellB hr10 (Ext.pres eB), RdS.cells hr10, BoxAt.cell hb0_0, BoxAt.cell hb0_1, wrap_id]
       refine hK _ _ ?_
       clear hK K
       refine den_stop ?_
       exact ⟨n + 1, by simp [HasL, puts_at], ⟨by omega, fun j hj => (Nat.lt_succ_iff_lt_or_eq.1 hj).elim (hz j) (fun e => by rw [e]; exact famAt_iff.2 ⟨c2, all_end (by omega) ha⟩), cL2⟩, by first | omega | (dsimp only; omega)⟩
   ·try simp only [decide_eq_true_eq, decide_eq_false_iff_not, beq_iff_eq, beq_eq_false_iff_ne, bne_iff_ne, ne_eq, Bool.not_eq_true', Bool.not_eq_false', Bool.and_eq_true, Bool.or_eq_true, bne_eq_false_iff_eq, Bool.or_eq_false_iff, Bool.and_eq_false_iff] at c1
    refine den_exit ?_
    refine denX_code ?_
    refine denX_stop ?_
    refine denX_hit ?_
    refine den_seq ?_
    refine den_region TTok ?_
    intro K hK
    simp -implicitDefEqProofs (disch := first | decide | assumption | omega) only [go_sem, RdS.len hdX sl22, RdS.idx hdX sl22, R1.intB hdX (Ext.pres eB), RdS.cells hdX, RdS.len hmX sl23, RdS.idx hmX sl23, RdS.cellB hmX (Ext.pres eB), RdS.cells hmX, RdS.len hdY sl22, RdS.idx hdY sl22, R1.intB hdY (Ext.pres eB), RdS.cells hdY, RdS.len hmY sl23, RdS.idx hmY sl23, RdS.cellB hmY (Ext.pres eB), RdS.cells hmY, RdS.len rf sl23, RdS.idx rf sl23, RdS.cellB rf (Ext.pres eB), RdS.cells rf, wrap_id]
    refine hK _ _ ?_
    clear hK K
    refine den_ret ?_
    simp (disch := decide) only [resP_1, puts_same, puts_ne]
    exact ⟨vbool (pdec_yes ⟨by omega, fun j hj => hz j (by omega)⟩), eB⟩

set_option maxRecDepth 100000 in
theorem idx4_ok (v : Value) (xs : List (List (List (List Int)))) (g : FuncId) (cs : Array Value) (f : List (List (List Int)) → Bool) (h : Heap) (hv : R4 h v xs) (hf : ∀ j, j < xs.length → ∀ h', Ext h h' → CallA Try.prog g (#[rowV h v j] ++ cs) h' fun u h'' => u = .bool (f (xs.getD j default)) ∧ Ext h' h'') : CallA Try.prog 140 #[v, .func (.func g) #[] cs] h fun v' h' => v' = .int .i64 (idxP f xs) ∧ Ext h h' := by
 have hle := RdS.le hv
 refine callA_intro TTok (args := [_, _]) Try.func140 (by kernel_rfl) rfl 19 rfl (by simp) [.tmp 4] rfl ?_
 simp only [idxs, Nat.reduceAdd]
 refine den_seq ?_
 refine den_region TTok ?_
 intro K hK
 simp -implicitDefEqProofs (disch := first | decide | assumption | omega) only [go_sem, RdS.len hv sl88, RdS.idx hv sl88, RdS.cellB hv (HPres.refl _), RdS.cells hv, wrap_id]
 refine hK _ _ ?_
 clear hK K
 refine den_seq ?_
 refine den_seq ?_
 refine den_region TTok ?_
 intro K hK
 simp -implicitDefEqProofs (disch := first | decide | assumption | omega) only [go_sem, RdS.len hv sl88, RdS.idx hv sl88, RdS.cellB hv (HPres.refl _), RdS.cells hv, wrap_id]
 refine hK _ _ ?_
 clear hK K
 refine den_block ?_
 refine den_sel [8, 0, 1, 7] ?_
 intro env_1
 simp only [go_sem]
 refine den_loopS (σ := Nat) (fun s => [(8, .int .i64 (s : Int))]) (fun s H => Ext h H ∧ s ≤ xs.length ∧ ∀ j, j < s → f (xs.getD j default) = false) (fun s => xs.length - s) 0 ?_ ?_
 ·exact ⟨Ext.refl _, by omega, fun j hj => by omega⟩
 ·rintro k h4 ee3 ⟨eB, hk, hz⟩
  simp only [List.cons_append, List.nil_append]
  have := Ext.size eB
  refine den_seq ?_
  refine den_region TTok ?_
  intro K hK
  simp -implicitDefEqProofs (disch := first | decide | assumption | omega) only [go_sem, RdS.len hv sl88, RdS.idx hv sl88, RdS.cellB hv (Ext.pres eB), RdS.cells hv, wrap_id]
  refine hK _ _ ?_
  clear hK K
  refine den_seq ?_
  refine den_cond rfl (fun c0 => ?_) (fun c0 => ?_)
  ·try simp only [decide_eq_true_eq, decide_eq_false_iff_not, beq_iff_eq, beq_eq_false_iff_ne, bne_iff_ne, ne_eq, Bool.not_eq_true', Bool.not_eq_false', Bool.and_eq_true, Bool.or_eq_true, bne_eq_false_iff_eq] at c0
   refine den_skip ?_
   refine den_seq ?_
   refine den_block ?_
   refine den_seq ?_
   refine den_region TTok ?_
   intro K hK
   simp -implicitDefEqProofs (disch := first | decide | assumption | omega) only [go_sem, RdS.len hv sl88, RdS.idx hv sl88, RdS.cellB hv (Ext.pres eB), RdS.cells hv, wrap_id]
   refine hK _ _ ?_
   clear hK K
   refine den_seq ?_
   refine den_region TTok ?_
   intro K hK
   have hr5 := RdS.rowN hv k (by omega)
   have hlhr5 := RdS.le hr5
   simp -implicitDefEqProofs (disch := first | decide | assumption | omega) only [go_sem, ld23, RdS.len hv sl88, RdS.idx hv sl88, RdS.cellB hv (Ext.pres eB), RdS.cells hv, RdS.len hr5 sl23, RdS.idx hr5 sl23, RdS.cellB hr5 (Ext.pres eB), RdS.cells hr5, wrap_id]
   try simp -implicitDefEqProofs (disch := first | decide | assumption | omega) only [go_sem, RdS.len hv sl88, RdS.idx hv sl88, RdS.cellB hv (Ext.pres eB), RdS.cells hv, RdS.len hr5 sl23, RdS.idx hr5 sl23, RdS.cellB hr5 (Ext.pres eB), RdS.cells hr5, wrap_id]
   refine CallA.mono (hf k (by omega) _ eB) ?_
   intro v_ h4_5
   rintro ⟨rfl, e4_5⟩
   have := Ext.size e4_5
   replace eB := Ext.trans eB e4_5
   try simp -implicitDefEqProofs (disch := first | decide | assumption | omega) only [go_sem, RdS.len hv sl88, RdS.idx hv sl88, RdS.cellB hv (Ext.pres eB), RdS.cells hv, RdS.len hr5 sl23, RdS.idx hr5 sl23, RdS.cellB hr5 (Ext.pres eB), RdS.cells hr5, wrap_id]
   refine hK _ _ ?_
   clear hK K
   refine den_cond rfl (fun c1 => ?_) (fun c1 => ?_)
   ·try simp only [decide_eq_true_eq, decide_eq_false_iff_not, beq_iff_eq, beq_eq_false_iff_ne, bne_iff_ne, ne_eq, Bool.not_eq_true', Bool.not_eq_false', Bool.and_eq_true, Bool.or_eq_true, bne_eq_false_iff_eq] at c1
    refine den_seq ?_
    refine den_region TTok ?_
    intro K hK
    simp -implicitDefEqProofs (disch := first | decide | assumption | omega) only [go_sem, RdS.len hv sl88, RdS.idx hv sl88, RdS.cellB hv (Ext.pres eB), RdS.cells hv, RdS.len hr5 sl23, RdS.idx hr5 sl23, RdS.cellB hr5 (Ext.pres eB), RdS.cells hr5, wrap_id]
    refine hK _ _ ?_
    clear hK K
    refine den_ret ?_
    simp (disch := decide) only [resP_1, puts_same, puts_ne]
    exact ⟨vint (idxP_at (by omega) hz (by simpa using c1)).symm, eB⟩
   ·try simp only [decide_eq_true_eq, decide_eq_false_iff_not, beq_iff_eq, beq_eq_false_iff_ne, bne_iff_ne, ne_eq, Bool.not_eq_true', Bool.not_eq_false', Bool.and_eq_true, Bool.or_eq_true, bne_eq_false_iff_eq] at c1
    refine den_skip ?_
    refine den_blk ?_
    refine den_region TTok ?_
    intro K hK
    simp -implicitDefEqProofs (disch := first | decide | assumption | omega) only [go_sem, RdS.len hv sl88, RdS.idx hv sl88, RdS.cellB hv (Ext.pres eB), RdS.cells hv, RdS.len hr5 sl23, RdS.idx hr5 sl23, RdS.cellB hr5 (Ext.pres eB), RdS.cells hr5, wrap_id]
    refine hK _ _ ?_
    clear hK K
    refine den_stop ?_
    exact ⟨k + 1, by simp [HasL, puts_at], ⟨eB, by omega, fun j hj => by
     rcases Nat.lt_succ_iff_lt_or_eq.1 hj with h1 | h1
     ·exact hz j h1
     ·rw [h1]; simpa using c1⟩, by omega⟩
  ·try simp only [decide_eq_true_eq, decide_eq_false_iff_not, beq_iff_eq, beq_eq_false_iff_ne, bne_iff_ne, ne_eq, Bool.not_eq_true', Bool.not_eq_false', Bool.and_eq_true, Bool.or_eq_true, bne_eq_false_iff_eq] at c0
   refine den_exit ?_
   refine denX_code ?_
   refine denX_stop ?_
   refine denX_hit ?_
   refine den_seq ?_
   refine den_region TTok ?_
   intro K hK
   simp -implicitDefEqProofs (disch := first | decide | assumption | omega) only [go_sem, RdS.len hv sl88, RdS.idx hv sl88, RdS.cellB hv (Ext.pres eB), RdS.cells hv, wrap_id]
   refine hK _ _ ?_
   clear hK K
   refine den_ret ?_
   simp (disch := decide) only [resP_1, puts_same, puts_ne]
   exact ⟨vint (idxP_none (all_getD (d := default) fun j hj => hz j (by omega))).symm, eB⟩

set_option maxRecDepth 100000 in
theorem has4_ok (v : Value) (xs : List (List (List (List Int)))) (g : FuncId) (cs : Array Value) (f : List (List (List Int)) → Bool) (h : Heap) (hv : R4 h v xs) (hf : ∀ j, j < xs.length → ∀ h', Ext h h' → CallA Try.prog g (#[rowV h v j] ++ cs) h' fun u h'' => u = .bool (f (xs.getD j default)) ∧ Ext h' h'') : CallA Try.prog 100 #[v, .func (.func g) #[] cs] h fun v' h' => v' = .bool (xs.any f) ∧ Ext h h' := by
 refine callA_intro TTok (args := [_, _]) Try.func100 (by kernel_rfl) rfl 9 rfl (by simp) [.tmp 4] rfl ?_
 simp only [idxs, Nat.reduceAdd]
 refine den_seq ?_
 refine den_region TTok ?_
 intro K hK
 simp -implicitDefEqProofs (disch := first | decide | assumption | omega) only [go_sem, RdS.len hv sl88, RdS.idx hv sl88, RdS.cellB hv (HPres.refl _), RdS.cells hv]
 refine hK _ _ ?_
 clear hK K
 refine den_seq ?_
 refine den_region TTok ?_
 intro K hK
 simp -implicitDefEqProofs (disch := first | decide | assumption | omega) only [go_sem, RdS.len hv sl88, RdS.idx hv sl88, RdS.cellB hv (HPres.refl _), RdS.cells hv]
 try simp -implicitDefEqProofs (disch := first | decide | assumption | omega) only [go_sem, RdS.len hv sl88, RdS.idx hv sl88, RdS.cellB hv (HPres.refl _), RdS.cells hv]
 refine CallA.mono (idx4_ok _ xs _ _ f _ hv hf) ?_
 intro v_ h1_2
 rintro ⟨rfl, e1_2⟩
 have := Ext.size e1_2
 have eB := e1_2
 try simp -implicitDefEqProofs (disch := first | decide | assumption | omega) only [go_sem, RdS.len hv sl88, RdS.idx hv sl88, RdS.cellB hv (Ext.pres eB), RdS.cells hv]
 refine hK _ _ ?_
 clear hK K
 refine den_ret ?_
 simp (disch := decide) only [resP_1, puts_same, puts_ne]
 exact ⟨vbool idxP_any, eB⟩

set_option maxRecDepth 100000 in
theorem famC1_ok (X Y : Cx) (v vdX vmX vdY vmY : Value) (f : List (List (List Int))) (b c : Nat) (h0 h : Heap) (hdX : R1 h0 vdX X.dims) (hmX : R3 h0 vmX X.maps) (hdY : R1 h0 vdY Y.dims) (hmY : R3 h0 vmY Y.maps) (eB : Ext h0 h) (hv : R3 h v f) (hb : BoxAt h b #[.int .i64 X.p, vdX, vmX] 30) (hc : BoxAt h c #[.int .i64 Y.p, vdY, vmY] 30) (hX : IsC X) : CallA Try.prog 134 #[v, .pointer (some ⟨b, 0, none⟩), .pointer (some ⟨c, 0, none⟩)] h fun v' h' => v' = .bool (!famP X Y f 0) ∧ Ext h h' := by
 refine callA_intro TTok (args := [_, _, _]) Try.func134 (by kernel_rfl) rfl 10 rfl (by simp) [.tmp 4] rfl ?_
 simp only [idxs, Nat.reduceAdd]
 refine den_seq ?_
 refine den_region TTok ?_
 intro K hK
 simp -implicitDefEqProofs (disch := first | decide | assumption | omega) only [go_sem, RdS.len hv sl23, RdS.idx hv sl23, RdS.cellB hv (HPres.refl _), RdS.cells hv, BoxAt.cell hb, BoxAt.cell hc]
 refine hK _ _ ?_
 clear hK K
 refine den_seq ?_
 refine den_region TTok ?_
 intro K hK
 simp -implicitDefEqProofs (disch := first | decide | assumption | omega) only [go_sem, ld30, RdS.len hv sl23, RdS.idx hv sl23, RdS.cellB hv (HPres.refl _), RdS.cells hv, BoxAt.cell hb, BoxAt.cell hc]
 try simp -implicitDefEqProofs (disch := first | decide | assumption | omega) only [go_sem, RdS.len hv sl23, RdS.idx hv sl23, RdS.cellB hv (HPres.refl _), RdS.cells hv, BoxAt.cell hb, BoxAt.cell hc]
 refine CallA.mono (iFam_ok _ _ _ X Y f 0 _ ⟨_, _, rfl, RdS.pres hdX (Ext.pres eB), RdS.pres hmX (Ext.pres eB)⟩ ⟨_, _, rfl, RdS.pres hdY (Ext.pres eB), RdS.pres hmY (Ext.pres eB)⟩ hv hX (by omega)) ?_
 intro v_ h1_3
 rintro ⟨rfl, e1⟩
 try simp -implicitDefEqProofs (disch := first | decide | assumption | omega) only [go_sem, RdS.len hv sl23, RdS.idx hv sl23, RdS.cellB hv (HPres.refl _), RdS.cells hv, BoxAt.cell hb, BoxAt.cell hc]
 refine hK _ _ ?_
 clear hK K
 refine den_ret ?_
 simp (disch := decide) only [resP_1, puts_same, puts_ne]
 exact ⟨by first | rfl | trivial, e1⟩
end Go.Proofs.Ytbplnadngahgaaa

namespace Go.Proofs.Ytbplnadngahgaaa
open Go
set_option maxRecDepth 100000 in
theorem iFamC_ok (vX vY vL : Value) (X : Cx) (Y : Cx) (L : List (List (List (List Int)))) (h : Heap) (rX : RC h vX X) (rY : RC h vY Y) (rL : R4 h vL L)  : CallA Try.prog 94 #[vX, vY, vL] h fun v' h' => v' = .int .i64 (famC X Y L) ∧ Ext h h' := by
 obtain ⟨vdX, vmX, rfl, hdX, hmX⟩ := rX
 have hledX := RdS.le hdX
 have hlemX := RdS.le hmX
 obtain ⟨vdY, vmY, rfl, hdY, hmY⟩ := rY
 have hledY := RdS.le hdY
 have hlemY := RdS.le hmY
 have hleL := RdS.le rL
 refine callA_intro TTok (args := [_, _, _]) Try.func94 (by kernel_rfl) rfl 20 rfl (by simp) [.tmp 6] rfl ?_
 simp only [idxs, Nat.reduceAdd]
 refine den_seq ?_
 refine den_region TTok ?_
 intro K hK
 simp -implicitDefEqProofs (disch := first | decide | assumption | omega) only [go_sem, RdS.len hdX sl22, RdS.idx hdX sl22, R1.intB hdX (HPres.refl _), RdS.cells hdX, RdS.len hmX sl23, RdS.idx hmX sl23, RdS.cellB hmX (HPres.refl _), RdS.cells hmX, RdS.len hdY sl22, RdS.idx hdY sl22, R1.intB hdY (HPres.refl _), RdS.cells hdY, RdS.len hmY sl23, RdS.idx hmY sl23, RdS.cellB hmY (HPres.refl _), RdS.cells hmY, RdS.len rL sl88, RdS.idx rL sl88, RdS.cellB rL (HPres.refl _), RdS.cells rL, wrap_id]
 refine op_box (cs := #[.int .i64 (X.p), vdX, vmX]) rfl ?_
 intro h0_0 e0_0 hb0_0 z0_0
 have := Ext.size e0_0
 have eB := e0_0
 have hfhb0_0 : Fresh h.size [h.size] := Fresh.one _
 have hlhb0_0 := one_lt (show h.size < h0_0.size by omega)
 try simp -implicitDefEqProofs (disch := first | decide | assumption | omega) only [go_sem, RdS.len hdX sl22, RdS.idx hdX sl22, R1.intB hdX (Ext.pres eB), RdS.cells hdX, RdS.len hmX sl23, RdS.idx hmX sl23, RdS.cellB hmX (Ext.pres eB), RdS.cells hmX, RdS.len hdY sl22, RdS.idx hdY sl22, R1.intB hdY (Ext.pres eB), RdS.cells hdY, RdS.len hmY sl23, RdS.idx hmY sl23, RdS.cellB hmY (Ext.pres eB), RdS.cells hmY, RdS.len rL sl88, RdS.idx rL sl88, RdS.cellB rL (Ext.pres eB), RdS.cells rL, BoxAt.cell hb0_0, wrap_id]
 refine op_box (cs := #[.int .i64 (Y.p), vdY, vmY]) rfl ?_
 intro h0_1 e0_1 hb0_1 z0_1
 replace hb0_0 := BoxAt.ext hb0_0 e0_1
 have := Ext.size e0_1
 replace eB := Ext.trans eB e0_1
 have hfhb0_1 : Fresh h0_0.size [h0_0.size] := Fresh.one _
 have hlhb0_1 := one_lt (show h0_0.size < h0_1.size by omega)
 try simp -implicitDefEqProofs (disch := first | decide | assumption | omega) only [go_sem, RdS.len hdX sl22, RdS.idx hdX sl22, R1.intB hdX (Ext.pres eB), RdS.cells hdX, RdS.len hmX sl23, RdS.idx hmX sl23, RdS.cellB hmX (Ext.pres eB), RdS.cells hmX, RdS.len hdY sl22, RdS.idx hdY sl22, R1.intB hdY (Ext.pres eB), RdS.cells hdY, RdS.len hmY sl23, RdS.idx hmY sl23, RdS.cellB hmY (Ext.pres eB), RdS.cells hmY, RdS.len rL sl88, RdS.idx rL sl88, RdS.cellB rL (Ext.pres eB), RdS.cells rL, BoxAt.cell hb0_0, BoxAt.cell hb0_1, wrap_id]
 refine hK _ _ ?_
 clear hK K
 refine den_seq ?_
 refine den_region TTok ?_
 intro K hK
 simp -implicitDefEqProofs (disch := first | decide | assumption | omega) only [go_sem, ld30, RdS.len hdX sl22, RdS.idx hdX sl22, R1.intB hdX (Ext.pres eB), RdS.cells hdX, RdS.len hmX sl23, RdS.idx hmX sl23, RdS.cellB hmX (Ext.pres eB), RdS.cells hmX, RdS.len hdY sl22, RdS.idx hdY sl22, R1.intB hdY (Ext.pres eB), RdS.cells hdY, RdS.len hmY sl23, RdS.idx hmY sl23, RdS.cellB hmY (Ext.pres eB), RdS.cells hmY, RdS.len rL sl88, RdS.idx rL sl88, RdS.cellB rL (Ext.pres eB), RdS.cells rL, BoxAt.cell hb0_0, BoxAt.cell hb0_1, wrap_id]
 refine op_bs2C (X := X) (Y := Y) ⟨_, _, rfl, (RdS.pres hdX (Ext.pres eB)), (RdS.pres hmX (Ext.pres eB))⟩ ⟨_, _, rfl, (RdS.pres hdY (Ext.pres eB)), (RdS.pres hmY (Ext.pres eB))⟩ ?_
 intro v1_2 h1_2 ho1_2 e1_2
 replace hb0_0 := BoxAt.ext hb0_0 e1_2
 replace hb0_1 := BoxAt.ext hb0_1 e1_2
 have := Ext.size e1_2
 replace eB := Ext.trans eB e1_2
 try simp -implicitDefEqProofs (disch := first | decide | assumption | omega) only [go_sem, RdS.len hdX sl22, RdS.idx hdX sl22, R1.intB hdX (Ext.pres eB), RdS.cells hdX, RdS.len hmX sl23, RdS.idx hmX sl23, RdS.cellB hmX (Ext.pres eB), RdS.cells hmX, RdS.len hdY sl22, RdS.idx hdY sl22, R1.intB hdY (Ext.pres eB), RdS.cells hdY, RdS.len hmY sl23, RdS.idx hmY sl23, RdS.cellB hmY (Ext.pres eB), RdS.cells hmY, RdS.len rL sl88, RdS.idx rL sl88, RdS.cellB rL (Ext.pres eB), RdS.cells rL, BoxAt.cell hb0_0, BoxAt.cell hb0_1, wrap_id]
 try simp -implicitDefEqProofs (disch := first | decide | assumption | omega) only [go_sem, RdS.len hdX sl22, RdS.idx hdX sl22, R1.intB hdX (Ext.pres eB), RdS.cells hdX, RdS.len hmX sl23, RdS.idx hmX sl23, RdS.cellB hmX (Ext.pres eB), RdS.cells hmX, RdS.len hdY sl22, RdS.idx hdY sl22, R1.intB hdY (Ext.pres eB), RdS.cells hdY, RdS.len hmY sl23, RdS.idx hmY sl23, RdS.cellB hmY (Ext.pres eB), RdS.cells hmY, RdS.len rL sl88, RdS.idx rL sl88, RdS.cellB rL (Ext.pres eB), RdS.cells rL, BoxAt.cell hb0_0, BoxAt.cell hb0_1, wrap_id]
 refine CallA.mono (pair2_ok _ _ _ _ ho1_2) ?_
 intro v_ h1_3
 rintro ⟨rfl, e1_3⟩
 replace hb0_0 := BoxAt.ext hb0_0 e1_3
 replace hb0_1 := BoxAt.ext hb0_1 e1_3
 replace ho1_2 := RdA.pres ho1_2 (Ext.pres e1_3)
 have := Ext.size e1_3
 replace eB := Ext.trans eB e1_3
 try simp -implicitDefEqProofs (disch := first | decide | assumption | omega) only [go_sem, RdS.len hdX sl22, RdS.idx hdX sl22, R1.intB hdX (Ext.pres eB), RdS.cells hdX, RdS.len hmX sl23, RdS.idx hmX sl23, RdS.cellB hmX (Ext.pres eB), RdS.cells hmX, RdS.len hdY sl22, RdS.idx hdY sl22, R1.intB hdY (Ext.pres eB), RdS.cells hdY, RdS.len hmY sl23, RdS.idx hmY sl23, RdS.cellB hmY (Ext.pres eB), RdS.cells hmY, RdS.len rL sl88, RdS.idx rL sl88, RdS.cellB rL (Ext.pres eB), RdS.cells rL, BoxAt.cell hb0_0, BoxAt.cell hb0_1, wrap_id]
 refine hK _ _ ?_
 clear hK K
 refine den_seq ?_
 refine den_seq ?_
 refine den_merge [(18, .bool ((((pairC X Y) == (0 : Int)) && (L.any fun f => !famP X Y f 0))))] [7] (fun H => Ext h1_3 H) ?_ ?_
  -- a way
 ·refine den_region TTok ?_
  intro K hK
  simp -implicitDefEqProofs (disch := first | decide | assumption | (simp (disch := decide) only [slotOf_zero, slotOf_succ, Option.map_some, puts_same, puts_ne, gv_bool, gv_undef, tt, tf, ft, ff, eq_self, if_true, if_false, Bool.false_eq_true, Bool.not_true, Bool.not_false]; done) | omega) only [go_sem, RdS.len hdX sl22, RdS.idx hdX sl22, R1.intB hdX (Ext.pres eB), RdS.cells hdX, RdS.len hmX sl23, RdS.idx hmX sl23, RdS.cellB hmX (Ext.pres eB), RdS.cells hmX, RdS.len hdY sl22, RdS.idx hdY sl22, R1.intB hdY (Ext.pres eB), RdS.cells hdY, RdS.len hmY sl23, RdS.idx hmY sl23, RdS.cellB hmY (Ext.pres eB), RdS.cells hmY, RdS.len rL sl88, RdS.idx rL sl88, RdS.cellB rL (Ext.pres eB), RdS.cells rL, BoxAt.cell hb0_0, BoxAt.cell hb0_1, wrap_id]
  refine opsP_T (by simp (disch := decide) only [slotOf_zero, slotOf_succ, Option.map_some, puts_same, puts_ne, gv_bool, gv_undef, tt, tf, ft, ff, eq_self, if_true, if_false, Bool.false_eq_true, Bool.not_true, Bool.not_false]; rfl) (fun g1 => ?_) (fun g1 => ?_)
  ·obtain ⟨hX, hY, hpp, hll⟩ := pairC_0 (b0 g1)
   try simp -implicitDefEqProofs (disch := first | decide | assumption | (simp (disch := decide) only [slotOf_zero, slotOf_succ, Option.map_some, puts_same, puts_ne, gv_bool, gv_undef, tt, tf, ft, ff, eq_self, if_true, if_false, Bool.false_eq_true, Bool.not_true, Bool.not_false, g1]; done) | omega) only [go_sem, RdS.len hdX sl22, RdS.idx hdX sl22, R1.intB hdX (Ext.pres eB), RdS.cells hdX, RdS.len hmX sl23, RdS.idx hmX sl23, RdS.cellB hmX (Ext.pres eB), RdS.cells hmX, RdS.len hdY sl22, RdS.idx hdY sl22, R1.intB hdY (Ext.pres eB), RdS.cells hdY, RdS.len hmY sl23, RdS.idx hmY sl23, RdS.cellB hmY (Ext.pres eB), RdS.cells hmY, RdS.len rL sl88, RdS.idx rL sl88, RdS.cellB rL (Ext.pres eB), RdS.cells rL, BoxAt.cell hb0_0, BoxAt.cell hb0_1, wrap_id, g1, eq_self, if_true, if_false, Bool.false_eq_true]
   try simp -implicitDefEqProofs (disch := first | decide | assumption | omega) only [go_sem, RdS.len hdX sl22, RdS.idx hdX sl22, R1.intB hdX (Ext.pres eB), RdS.cells hdX, RdS.len hmX sl23, RdS.idx hmX sl23, RdS.cellB hmX (Ext.pres eB), RdS.cells hmX, RdS.len hdY sl22, RdS.idx hdY sl22, R1.intB hdY (Ext.pres eB), RdS.cells hdY, RdS.len hmY sl23, RdS.idx hmY sl23, RdS.cellB hmY (Ext.pres eB), RdS.cells hmY, RdS.len rL sl88, RdS.idx rL sl88, RdS.cellB rL (Ext.pres eB), RdS.cells rL, BoxAt.cell hb0_0, BoxAt.cell hb0_1, wrap_id]
   refine CallA.mono (has4_ok _ L _ _ (fun f => !famP X Y f 0) _ (RdS.pres rL (Ext.pres eB)) (fun j hj h' e => by
  simp only [List.append_toArray, List.cons_append, List.nil_append]
  exact famC1_ok X Y _ _ _ _ _ _ _ _ _ _ hdX hmX hdY hmY (Ext.trans eB e) ((RdS.rowN (RdS.pres rL (Ext.pres eB)) j hj).pres (Ext.pres e)) (BoxAt.ext hb0_0 e) (BoxAt.ext hb0_1 e) hX)) ?_
   intro v_ h2_5
   rintro ⟨rfl, e2_5⟩
   replace hb0_0 := BoxAt.ext hb0_0 e2_5
   replace hb0_1 := BoxAt.ext hb0_1 e2_5
   replace ho1_2 := RdA.pres ho1_2 (Ext.pres e2_5)
   have := Ext.size e2_5
   replace eB := Ext.trans eB e2_5
   try simp -implicitDefEqProofs (disch := first | decide | assumption | (simp (disch := decide) only [slotOf_zero, slotOf_succ, Option.map_some, puts_same, puts_ne, gv_bool, gv_undef, tt, tf, ft, ff, eq_self, if_true, if_false, Bool.false_eq_true, Bool.not_true, Bool.not_false, g1]; done) | omega) only [go_sem, RdS.len hdX sl22, RdS.idx hdX sl22, R1.intB hdX (Ext.pres eB), RdS.cells hdX, RdS.len hmX sl23, RdS.idx hmX sl23, RdS.cellB hmX (Ext.pres eB), RdS.cells hmX, RdS.len hdY sl22, RdS.idx hdY sl22, R1.intB hdY (Ext.pres eB), RdS.cells hdY, RdS.len hmY sl23, RdS.idx hmY sl23, RdS.cellB hmY (Ext.pres eB), RdS.cells hmY, RdS.len rL sl88, RdS.idx rL sl88, RdS.cellB rL (Ext.pres eB), RdS.cells rL, BoxAt.cell hb0_0, BoxAt.cell hb0_1, wrap_id, g1, eq_self, if_true, if_false, Bool.false_eq_true]
   refine hK _ _ ?_
   clear hK K
   refine den_stop ?_
   refine ⟨?_, e2_5⟩
   first | (simp (disch := decide) only [go_sem, g1, eq_self, Bool.true_and, Bool.and_true, Bool.false_and, Bool.and_false, Bool.true_or, Bool.or_true, Bool.false_or, Bool.or_false, if_true, if_false, Bool.false_eq_true]; done) | simp [HasL, sel, puts_at, g1]
  ·try simp -implicitDefEqProofs (disch := first | decide | assumption | (simp (disch := decide) only [slotOf_zero, slotOf_succ, Option.map_some, puts_same, puts_ne, gv_bool, gv_undef, tt, tf, ft, ff, eq_self, if_true, if_false, Bool.false_eq_true, Bool.not_true, Bool.not_false, g1]; done) | omega) only [go_sem, RdS.len hdX sl22, RdS.idx hdX sl22, R1.intB hdX (Ext.pres eB), RdS.cells hdX, RdS.len hmX sl23, RdS.idx hmX sl23, RdS.cellB hmX (Ext.pres eB), RdS.cells hmX, RdS.len hdY sl22, RdS.idx hdY sl22, R1.intB hdY (Ext.pres eB), RdS.cells hdY, RdS.len hmY sl23, RdS.idx hmY sl23, RdS.cellB hmY (Ext.pres eB), RdS.cells hmY, RdS.len rL sl88, RdS.idx rL sl88, RdS.cellB rL (Ext.pres eB), RdS.cells rL, BoxAt.cell hb0_0, BoxAt.cell hb0_1, wrap_id, g1, eq_self, if_true, if_false, Bool.false_eq_true]
   refine hK _ _ ?_
   clear hK K
   refine den_stop ?_
   refine ⟨?_, Ext.refl _⟩
   first | (simp (disch := decide) only [go_sem, g1, eq_self, Bool.true_and, Bool.and_true, Bool.false_and, Bool.and_false, Bool.true_or, Bool.or_true, Bool.false_or, Bool.or_false, if_true, if_false, Bool.false_eq_true]; done) | simp [HasL, sel, puts_at, g1]
 intro en2 h3 e4
 replace hb0_0 := BoxAt.ext hb0_0 e4
 replace hb0_1 := BoxAt.ext hb0_1 e4
 replace ho1_2 := RdA.pres ho1_2 (Ext.pres e4)
 have := Ext.size e4
 replace eB := Ext.trans eB e4
 simp (disch := decide) only [go_sem]
 refine den_mergeH [(7, .int .i64 ((cadd (pairC X Y) (2 : Int) (L.any fun f => !famP X Y f 0))))] [] ?_ ?_
 ·refine den_cond rfl (fun c0 => ?_) (fun c0 => ?_)
  ·refine den_region TTok ?_
   intro K hK
   simp -implicitDefEqProofs (disch := first | decide | assumption | omega) only [go_sem, RdS.len hdX sl22, RdS.idx hdX sl22, R1.intB hdX (Ext.pres eB), RdS.cells hdX, RdS.len hmX sl23, RdS.idx hmX sl23, RdS.cellB hmX (Ext.pres eB), RdS.cells hmX, RdS.len hdY sl22, RdS.idx hdY sl22, R1.intB hdY (Ext.pres eB), RdS.cells hdY, RdS.len hmY sl23, RdS.idx hmY sl23, RdS.cellB hmY (Ext.pres eB), RdS.cells hmY, RdS.len rL sl88, RdS.idx rL sl88, RdS.cellB rL (Ext.pres eB), RdS.cells rL, wrap_id]
   refine hK _ _ ?_
   clear hK K
   refine den_stop ?_
   refine ⟨?_, rfl⟩; simp (disch := decide) only [go_sem, c0, caddT c0, eq_self, if_true, if_false, Bool.false_eq_true, reduceCtorEq]
  ·refine den_skip ?_
   refine den_stop ?_
   refine ⟨?_, rfl⟩; simp (disch := decide) only [go_sem, c0, caddF c0, eq_self, if_true, if_false, Bool.false_eq_true, reduceCtorEq]
 intro en5
 simp (disch := decide) only [go_sem]
 refine den_seq ?_
 refine den_region TTok ?_
 intro K hK
 simp -implicitDefEqProofs (disch := first | decide | assumption | omega) only [go_sem, RdS.len hdX sl22, RdS.idx hdX sl22, R1.intB hdX (Ext.pres eB), RdS.cells hdX, RdS.len hmX sl23, RdS.idx hmX sl23, RdS.cellB hmX (Ext.pres eB), RdS.cells hmX, RdS.len hdY sl22, RdS.idx hdY sl22, R1.intB hdY (Ext.pres eB), RdS.cells hdY, RdS.len hmY sl23, RdS.idx hmY sl23, RdS.cellB hmY (Ext.pres eB), RdS.cells hmY, RdS.len rL sl88, RdS.idx rL sl88, RdS.cellB rL (Ext.pres eB), RdS.cells rL, wrap_id]
 refine hK _ _ ?_
 clear hK K
 refine den_ret ?_
 simp (disch := decide) only [resP_1, puts_same, puts_ne]
 exact ⟨rfl, eB⟩

set_option maxRecDepth 100000 in
theorem sFamC_ok (vX vY vL : Value) (X : Cx) (Y : Cx) (L : List (List (List (List Int)))) (h : Heap) (rX : RC h vX X) (rY : RC h vY Y) (rL : R4 h vL L)  : CallA Try.prog 93 #[vX, vY, vL] h fun v' h' => v' = .int .i64 (famC X Y L) ∧ Ext h h' := by
 obtain ⟨vdX, vmX, rfl, hdX, hmX⟩ := rX
 have hledX := RdS.le hdX
 have hlemX := RdS.le hmX
 obtain ⟨vdY, vmY, rfl, hdY, hmY⟩ := rY
 have hledY := RdS.le hdY
 have hlemY := RdS.le hmY
 have hleL := RdS.le rL
 refine callA_intro TTok (args := [_, _, _]) Try.func93 (by kernel_rfl) rfl 29 rfl (by simp) [.tmp 6] rfl ?_
 simp only [idxs, Nat.reduceAdd]
 refine den_seq ?_
 refine den_region TTok ?_
 intro K hK
 simp -implicitDefEqProofs (disch := first | decide | assumption | omega) only [go_sem, RdS.len hdX sl22, RdS.idx hdX sl22, R1.intB hdX (HPres.refl _), RdS.cells hdX, RdS.len hmX sl23, RdS.idx hmX sl23, RdS.cellB hmX (HPres.refl _), RdS.cells hmX, RdS.len hdY sl22, RdS.idx hdY sl22, R1.intB hdY (HPres.refl _), RdS.cells hdY, RdS.len hmY sl23, RdS.idx hmY sl23, RdS.cellB hmY (HPres.refl _), RdS.cells hmY, RdS.len rL sl88, RdS.idx rL sl88, RdS.cellB rL (HPres.refl _), RdS.cells rL, wrap_id]
 refine op_box (cs := #[.int .i64 (X.p), vdX, vmX]) rfl ?_
 intro h0_0 e0_0 hb0_0 z0_0
 have := Ext.size e0_0
 have eB := e0_0
 have hfhb0_0 : Fresh h.size [h.size] := Fresh.one _
 have hlhb0_0 := one_lt (show h.size < h0_0.size by omega)
 try simp -implicitDefEqProofs (disch := first | decide | assumption | omega) only [go_sem, RdS.len hdX sl22, RdS.idx hdX sl22, R1.intB hdX (Ext.pres eB), RdS.cells hdX, RdS.len hmX sl23, RdS.idx hmX sl23, RdS.cellB hmX (Ext.pres eB), RdS.cells hmX, RdS.len hdY sl22, RdS.idx hdY sl22, R1.intB hdY (Ext.pres eB), RdS.cells hdY, RdS.len hmY sl23, RdS.idx hmY sl23, RdS.cellB hmY (Ext.pres eB), RdS.cells hmY, RdS.len rL sl88, RdS.idx rL sl88, RdS.cellB rL (Ext.pres eB), RdS.cells rL, BoxAt.cell hb0_0, wrap_id]
 refine op_box (cs := #[.int .i64 (Y.p), vdY, vmY]) rfl ?_
 intro h0_1 e0_1 hb0_1 z0_1
 replace hb0_0 := BoxAt.ext hb0_0 e0_1
 have := Ext.size e0_1
 replace eB := Ext.trans eB e0_1
 have hfhb0_1 : Fresh h0_0.size [h0_0.size] := Fresh.one _
 have hlhb0_1 := one_lt (show h0_0.size < h0_1.size by omega)
 try simp -implicitDefEqProofs (disch := first | decide | assumption | omega) only [go_sem, RdS.len hdX sl22, RdS.idx hdX sl22, R1.intB hdX (Ext.pres eB), RdS.cells hdX, RdS.len hmX sl23, RdS.idx hmX sl23, RdS.cellB hmX (Ext.pres eB), RdS.cells hmX, RdS.len hdY sl22, RdS.idx hdY sl22, R1.intB hdY (Ext.pres eB), RdS.cells hdY, RdS.len hmY sl23, RdS.idx hmY sl23, RdS.cellB hmY (Ext.pres eB), RdS.cells hmY, RdS.len rL sl88, RdS.idx rL sl88, RdS.cellB rL (Ext.pres eB), RdS.cells rL, BoxAt.cell hb0_0, BoxAt.cell hb0_1, wrap_id]
 refine hK _ _ ?_
 clear hK K
 refine den_seq ?_
 refine den_seq ?_
 refine den_region TTok ?_
 intro K hK
 simp -implicitDefEqProofs (disch := first | decide | assumption | omega) only [go_sem, ld30, RdS.len hdX sl22, RdS.idx hdX sl22, R1.intB hdX (Ext.pres eB), RdS.cells hdX, RdS.len hmX sl23, RdS.idx hmX sl23, RdS.cellB hmX (Ext.pres eB), RdS.cells hmX, RdS.len hdY sl22, RdS.idx hdY sl22, R1.intB hdY (Ext.pres eB), RdS.cells hdY, RdS.len hmY sl23, RdS.idx hmY sl23, RdS.cellB hmY (Ext.pres eB), RdS.cells hmY, RdS.len rL sl88, RdS.idx rL sl88, RdS.cellB rL (Ext.pres eB), RdS.cells rL, BoxAt.cell hb0_0, BoxAt.cell hb0_1, wrap_id]
 try simp -implicitDefEqProofs (disch := first | decide | assumption | omega) only [go_sem, RdS.len hdX sl22, RdS.idx hdX sl22, R1.intB hdX (Ext.pres eB), RdS.cells hdX, RdS.len hmX sl23, RdS.idx hmX sl23, RdS.cellB hmX (Ext.pres eB), RdS.cells hmX, RdS.len hdY sl22, RdS.idx hdY sl22, R1.intB hdY (Ext.pres eB), RdS.cells hdY, RdS.len hmY sl23, RdS.idx hmY sl23, RdS.cellB hmY (Ext.pres eB), RdS.cells hmY, RdS.len rL sl88, RdS.idx rL sl88, RdS.cellB rL (Ext.pres eB), RdS.cells rL, BoxAt.cell hb0_0, BoxAt.cell hb0_1, wrap_id]
 refine CallA.mono (l04Two_ok _ _ X Y _ ⟨_, _, rfl, (RdS.pres hdX (Ext.pres eB)), (RdS.pres hmX (Ext.pres eB))⟩ ⟨_, _, rfl, (RdS.pres hdY (Ext.pres eB)), (RdS.pres hmY (Ext.pres eB))⟩ ) ?_
 intro v_ h1_2
 rintro ⟨rfl, e1_2⟩
 replace hb0_0 := BoxAt.ext hb0_0 e1_2
 replace hb0_1 := BoxAt.ext hb0_1 e1_2
 have := Ext.size e1_2
 replace eB := Ext.trans eB e1_2
 try simp -implicitDefEqProofs (disch := first | decide | assumption | omega) only [go_sem, RdS.len hdX sl22, RdS.idx hdX sl22, R1.intB hdX (Ext.pres eB), RdS.cells hdX, RdS.len hmX sl23, RdS.idx hmX sl23, RdS.cellB hmX (Ext.pres eB), RdS.cells hmX, RdS.len hdY sl22, RdS.idx hdY sl22, R1.intB hdY (Ext.pres eB), RdS.cells hdY, RdS.len hmY sl23, RdS.idx hmY sl23, RdS.cellB hmY (Ext.pres eB), RdS.cells hmY, RdS.len rL sl88, RdS.idx rL sl88, RdS.cellB rL (Ext.pres eB), RdS.cells rL, BoxAt.cell hb0_0, BoxAt.cell hb0_1, wrap_id]
 refine hK _ _ ?_
 clear hK K
 refine den_seq ?_
 refine den_region TTok ?_
 intro K hK
 simp -implicitDefEqProofs (disch := first | decide | assumption | omega) only [go_sem, RdS.len hdX sl22, RdS.idx hdX sl22, R1.intB hdX (Ext.pres eB), RdS.cells hdX, RdS.len hmX sl23, RdS.idx hmX sl23, RdS.cellB hmX (Ext.pres eB), RdS.cells hmX, RdS.len hdY sl22, RdS.idx hdY sl22, R1.intB hdY (Ext.pres eB), RdS.cells hdY, RdS.len hmY sl23, RdS.idx hmY sl23, RdS.cellB hmY (Ext.pres eB), RdS.cells hmY, RdS.len rL sl88, RdS.idx rL sl88, RdS.cellB rL (Ext.pres eB), RdS.cells rL, BoxAt.cell hb0_0, BoxAt.cell hb0_1, wrap_id]
 refine hK _ _ ?_
 clear hK K
 refine den_cond rfl (fun c0 => ?_) (fun c0 => ?_)
 ·try simp only [decide_eq_true_eq, decide_eq_false_iff_not, beq_iff_eq, beq_eq_false_iff_ne, bne_iff_ne, ne_eq, Bool.not_eq_true', Bool.not_eq_false', Bool.and_eq_true, Bool.or_eq_true, bne_eq_false_iff_eq] at c0
  refine den_seq ?_
  refine den_region TTok ?_
  intro K hK
  simp -implicitDefEqProofs (disch := first | decide | assumption | omega) only [go_sem, RdS.len hdX sl22, RdS.idx hdX sl22, R1.intB hdX (Ext.pres eB), RdS.cells hdX, RdS.len hmX sl23, RdS.idx hmX sl23, RdS.cellB hmX (Ext.pres eB), RdS.cells hmX, RdS.len hdY sl22, RdS.idx hdY sl22, R1.intB hdY (Ext.pres eB), RdS.cells hdY, RdS.len hmY sl23, RdS.idx hmY sl23, RdS.cellB hmY (Ext.pres eB), RdS.cells hmY, RdS.len rL sl88, RdS.idx rL sl88, RdS.cellB rL (Ext.pres eB), RdS.cells rL, wrap_id]
  refine hK _ _ ?_
  clear hK K
  refine den_ret ?_
  simp (disch := decide) only [resP_1, puts_same, puts_ne]
  exact ⟨vint (by rw [famC, cadd_n c0]), eB⟩
 ·try simp only [decide_eq_true_eq, decide_eq_false_iff_not, beq_iff_eq, beq_eq_false_iff_ne, bne_iff_ne, ne_eq, Bool.not_eq_true', Bool.not_eq_false', Bool.and_eq_true, Bool.or_eq_true, bne_eq_false_iff_eq] at c0
  obtain ⟨hX, hY, hpp, hll⟩ := pairC_0 c0
  refine den_skip ?_
  refine den_seq ?_
  refine den_seq ?_
  refine den_region TTok ?_
  intro K hK
  simp -implicitDefEqProofs (disch := first | decide | assumption | omega) only [go_sem, RdS.len hdX sl22, RdS.idx hdX sl22, R1.intB hdX (Ext.pres eB), RdS.cells hdX, RdS.len hmX sl23, RdS.idx hmX sl23, RdS.cellB hmX (Ext.pres eB), RdS.cells hmX, RdS.len hdY sl22, RdS.idx hdY sl22, R1.intB hdY (Ext.pres eB), RdS.cells hdY, RdS.len hmY sl23, RdS.idx hmY sl23, RdS.cellB hmY (Ext.pres eB), RdS.cells hmY, RdS.len rL sl88, RdS.idx rL sl88, RdS.cellB rL (Ext.pres eB), RdS.cells rL, BoxAt.cell hb0_0, BoxAt.cell hb0_1, wrap_id]
  refine hK _ _ ?_
  clear hK K
  refine den_block ?_
  refine den_sel [8, 2, 3, 4] ?_
  intro env_1
  simp only [go_sem]
  refine den_loopS (σ := Nat) (fun st_ => [(8, .int .i64 (st_ : Int))]) (fun st_ H => (st_ ≤ L.length) ∧ (∀ j, j < st_ → (!famP X Y (L.getD j default) 0) = false) ∧ (Ext h1_2 H)) (fun st_ => L.length - st_) 0 ?_ ?_
  ·exact ⟨by simp, fun j hj => by omega, Ext.refl _⟩
  ·rintro k h4 ee3 ⟨hk, hz, cL2⟩
   replace hb0_0 := BoxAt.ext hb0_0 cL2
   replace hb0_1 := BoxAt.ext hb0_1 cL2
   have := Ext.size cL2
   replace eB := Ext.trans eB cL2
   simp only [List.cons_append, List.nil_append]
   refine den_seq ?_
   refine den_seq ?_
   refine den_region TTok ?_
   intro K hK
   simp -implicitDefEqProofs (disch := first | decide | assumption | omega) only [go_sem, RdS.len hdX sl22, RdS.idx hdX sl22, R1.intB hdX (Ext.pres eB), RdS.cells hdX, RdS.len hmX sl23, RdS.idx hmX sl23, RdS.cellB hmX (Ext.pres eB), RdS.cells hmX, RdS.len hdY sl22, RdS.idx hdY sl22, R1.intB hdY (Ext.pres eB), RdS.cells hdY, RdS.len hmY sl23, RdS.idx hmY sl23, RdS.cellB hmY (Ext.pres eB), RdS.cells hmY, RdS.len rL sl88, RdS.idx rL sl88, RdS.cellB rL (Ext.pres eB), RdS.cells rL, BoxAt.cell hb0_0, BoxAt.cell hb0_1, wrap_id]
   refine hK _ _ ?_
   clear hK K
   refine den_cond rfl (fun c1 => ?_) (fun c1 => ?_)
   ·try simp only [decide_eq_true_eq, decide_eq_false_iff_not, beq_iff_eq, beq_eq_false_iff_ne, bne_iff_ne, ne_eq, Bool.not_eq_true', Bool.not_eq_false', Bool.and_eq_true, Bool.or_eq_true, bne_eq_false_iff_eq] at c1
    refine den_skip ?_
    refine den_seq ?_
    refine den_block ?_
    refine den_seq ?_
    refine den_draw TTok mixed [] [(0, true), (1, true), (2, true), (3, true), (4, true), (5, true), (6, false), (7, true)] (by kernel_rfl) ?_
    intro K hK
    have hr5 := RdS.rowN rL k (by omega)
    have hlhr5 := RdS.le hr5
    simp -implicitDefEqProofs (disch := first | decide | assumption | omega) only [go_sem, ld23, ld30, RdS.len hdX sl22, RdS.idx hdX sl22, R1.intB hdX (Ext.pres eB), RdS.cells hdX, RdS.len hmX sl23, RdS.idx hmX sl23, RdS.cellB hmX (Ext.pres eB), RdS.cells hmX, RdS.len hdY sl22, RdS.idx hdY sl22, R1.intB hdY (Ext.pres eB), RdS.cells hdY, RdS.len hmY sl23, RdS.idx hmY sl23, RdS.cellB hmY (Ext.pres eB), RdS.cells hmY, RdS.len rL sl88, RdS.idx rL sl88, RdS.cellB rL (Ext.pres eB), RdS.cells rL, RdS.len hr5 sl23, RdS.idx hr5 sl23, RdS.cellB hr5 (Ext.pres eB), RdS.cells hr5, BoxAt.cell hb0_0, BoxAt.cell hb0_1, wrap_id]
    try simp -implicitDefEqProofs (disch := first | decide | assumption | omega) only [go_sem, RdS.len hdX sl22, RdS.idx hdX sl22, R1.intB hdX (Ext.pres eB), RdS.cells hdX, RdS.len hmX sl23, RdS.idx hmX sl23, RdS.cellB hmX (Ext.pres eB), RdS.cells hmX, RdS.len hdY sl22, RdS.idx hdY sl22, R1.intB hdY (Ext.pres eB), RdS.cells hdY, RdS.len hmY sl23, RdS.idx hmY sl23, RdS.cellB hmY (Ext.pres eB), RdS.cells hmY, RdS.len rL sl88, RdS.idx rL sl88, RdS.cellB rL (Ext.pres eB), RdS.cells rL, RdS.len hr5 sl23, RdS.idx hr5 sl23, RdS.cellB hr5 (Ext.pres eB), RdS.cells hr5, BoxAt.cell hb0_0, BoxAt.cell hb0_1, wrap_id]
    refine CallA.mono (sFam_ok _ _ _ X Y ((L).getD k default) (0 : Int) _ ⟨_, _, rfl, (RdS.pres hdX (Ext.pres eB)), (RdS.pres hmX (Ext.pres eB))⟩ ⟨_, _, rfl, (RdS.pres hdY (Ext.pres eB)), (RdS.pres hmY (Ext.pres eB))⟩ (RdS.pres hr5 (Ext.pres eB)) hX (by omega)) ?_
    intro v_ h7_6
    rintro ⟨rfl, e7_6⟩
    replace hb0_0 := BoxAt.ext hb0_0 e7_6
    replace hb0_1 := BoxAt.ext hb0_1 e7_6
    have := Ext.size e7_6
    replace eB := Ext.trans eB e7_6
    replace cL2 := Ext.trans cL2 e7_6
    try simp (disch := decide) only [outv_some, outv_none, put_puts]
    refine plK_pres (Ext.pres e7_6) ?_
    try simp -implicitDefEqProofs (disch := first | decide | assumption | omega) only [go_sem, RdS.len hdX sl22, RdS.idx hdX sl22, R1.intB hdX (Ext.pres eB), RdS.cells hdX, RdS.len hmX sl23, RdS.idx hmX sl23, RdS.cellB hmX (Ext.pres eB), RdS.cells hmX, RdS.len hdY sl22, RdS.idx hdY sl22, R1.intB hdY (Ext.pres eB), RdS.cells hdY, RdS.len hmY sl23, RdS.idx hmY sl23, RdS.cellB hmY (Ext.pres eB), RdS.cells hmY, RdS.len rL sl88, RdS.idx rL sl88, RdS.cellB rL (Ext.pres eB), RdS.cells rL, RdS.len hr5 sl23, RdS.idx hr5 sl23, RdS.cellB hr5 (Ext.pres eB), RdS.cells hr5, BoxAt.cell hb0_0, BoxAt.cell hb0_1, wrap_id]
    refine hK _ _ ?_
    clear hK K
    refine den_cond rfl (fun c2 => ?_) (fun c2 => ?_)
    ·try simp only [decide_eq_true_eq, decide_eq_false_iff_not, beq_iff_eq, beq_eq_false_iff_ne, bne_iff_ne, ne_eq, Bool.not_eq_true', Bool.not_eq_false', Bool.and_eq_true, Bool.or_eq_true, bne_eq_false_iff_eq] at c2
     refine den_seq ?_
     refine den_region TTok ?_
     intro K hK
     simp -implicitDefEqProofs (disch := first | decide | assumption | omega) only [go_sem, RdS.len hdX sl22, RdS.idx hdX sl22, R1.intB hdX (Ext.pres eB), RdS.cells hdX, RdS.len hmX sl23, RdS.idx hmX sl23, RdS.cellB hmX (Ext.pres eB), RdS.cells hmX, RdS.len hdY sl22, RdS.idx hdY sl22, R1.intB hdY (Ext.pres eB), RdS.cells hdY, RdS.len hmY sl23, RdS.idx hmY sl23, RdS.cellB hmY (Ext.pres eB), RdS.cells hmY, RdS.len rL sl88, RdS.idx rL sl88, RdS.cellB rL (Ext.pres eB), RdS.cells rL, RdS.len hr5 sl23, RdS.idx hr5 sl23, RdS.cellB hr5 (Ext.pres eB), RdS.cells hr5, wrap_id]
     refine hK _ _ ?_
     clear hK K
     refine den_ret ?_
     simp (disch := decide) only [resP_1, puts_same, puts_ne]
     exact ⟨vint (by rw [famC, c0, cadd_z, any_stop (d := default) (k := k) (by omega) (by simpa using c2)]; rfl), eB⟩
    ·try simp only [decide_eq_true_eq, decide_eq_false_iff_not, beq_iff_eq, beq_eq_false_iff_ne, bne_iff_ne, ne_eq, Bool.not_eq_true', Bool.not_eq_false', Bool.and_eq_true, Bool.or_eq_true, bne_eq_false_iff_eq] at c2
     refine den_skip ?_
     refine den_blk ?_
     refine den_region TTok ?_
     intro K hK
     simp -implicitDefEqProofs (disch := first | decide | assumption | omega) only [go_sem, RdS.len hdX sl22, RdS.idx hdX sl22, R1.intB hdX (Ext.pres eB), RdS.cells hdX, RdS.len hmX sl23, RdS.idx hmX sl23, RdS.cellB hmX (Ext.pres eB), RdS.cells hmX, RdS.len hdY sl22, RdS.idx hdY sl22, R1.intB hdY (Ext.pres eB), RdS.cells hdY, RdS.len hmY sl23, RdS.idx hmY sl23, RdS.cellB hmY (Ext.pres eB), RdS.cells hmY, RdS.len rL sl88, RdS.idx rL sl88, RdS.cellB rL (Ext.pres eB), RdS.cells rL, RdS.len hr5 sl23, RdS.idx hr5 sl23, RdS.cellB hr5 (Ext.pres eB), RdS.cells hr5, BoxAt.cell hb0_0, BoxAt.cell hb0_1, wrap_id]
     refine hK _ _ ?_
     clear hK K
     refine den_stop ?_
     exact ⟨k + 1, by simp [HasL, puts_at], ⟨by omega, fun j hj => (Nat.lt_succ_iff_lt_or_eq.1 hj).elim (hz j) (fun e => by rw [e]; simpa using c2), cL2⟩, by first | omega | (dsimp only; omega)⟩
   ·try simp only [decide_eq_true_eq, decide_eq_false_iff_not, beq_iff_eq, beq_eq_false_iff_ne, bne_iff_ne, ne_eq, Bool.not_eq_true', Bool.not_eq_false', Bool.and_eq_true, Bool.or_eq_true, bne_eq_false_iff_eq] at c1
    refine den_exit ?_
    refine denX_code ?_
    refine denX_stop ?_
    refine denX_hit ?_
    refine den_seq ?_
    refine den_region TTok ?_
    intro K hK
    simp -implicitDefEqProofs (disch := first | decide | assumption | omega) only [go_sem, RdS.len hdX sl22, RdS.idx hdX sl22, R1.intB hdX (Ext.pres eB), RdS.cells hdX, RdS.len hmX sl23, RdS.idx hmX sl23, RdS.cellB hmX (Ext.pres eB), RdS.cells hmX, RdS.len hdY sl22, RdS.idx hdY sl22, R1.intB hdY (Ext.pres eB), RdS.cells hdY, RdS.len hmY sl23, RdS.idx hmY sl23, RdS.cellB hmY (Ext.pres eB), RdS.cells hmY, RdS.len rL sl88, RdS.idx rL sl88, RdS.cellB rL (Ext.pres eB), RdS.cells rL, wrap_id]
    refine hK _ _ ?_
    clear hK K
    refine den_ret ?_
    simp (disch := decide) only [resP_1, puts_same, puts_ne]
    exact ⟨vint (by rw [famC, c0, cadd_z, any_end default (k := k) (by omega) hz]; rfl), eB⟩

def imgP (X Y : Cx) (f : List (List (List Int))) (s n : Int) (v : List Int) : List Int := accP X.p v (f.getD n.toNat default) (List.replicate (dimP Y (n + s)).toNat 0)
def appP (X Y : Cx) (f : List (List (List Int))) (s n : Int) (v : List Int) : List Int := if in3 n 0 ((X.dims.length : Int) - 1) = true then imgP X Y f s n v else List.replicate (dimP Y (n + s)).toNat 0
theorem img_pre {X Y : Cx} {f : List (List (List Int))} {s n : Int} {v : List Int} (hY : IsC Y) (hF : IsFam X Y f s) (h0 : 0 ≤ n) (h1 : n ≤ (X.dims.length : Int) - 1) (hv : (v.length : Int) = X.dims.getD n.toNat 0) : (0 ≤ dimP Y (n + s) ∧ dimP Y (n + s) ≤ 8) ∧ n.toNat < f.length ∧ v.length ≤ (f.getD n.toNat default).length ∧ Tbl X.p (dimP Y (n + s)) (f.getD n.toNat default) := by
 have hl := hF.len
 have h := hF.at (n := n.toNat) (by omega)
 have e : ((n.toNat : Nat) : Int) + s = n + s := by omega
 rw [e] at h
 exact ⟨dimP_bnd hY _, by omega, by omega, h.2⟩
theorem img_len {X Y : Cx} {f : List (List (List Int))} {s n : Int} {v : List Int} (hY : IsC Y) (hF : IsFam X Y f s) (h0 : 0 ≤ n) (h1 : n ≤ (X.dims.length : Int) - 1) (hv : (v.length : Int) = X.dims.getD n.toNat 0) : ((imgP X Y f s n v).length : Int) = dimP Y (n + s) := by
 obtain ⟨d, l, k, t⟩ := img_pre hY hF h0 h1 hv
 have e : ((List.replicate (dimP Y (n + s)).toNat (0 : Int)).length : Int) = dimP Y (n + s) := by rw [List.length_replicate]; omega
 rw [imgP, accP_len (by rw [e]; exact t)]; exact e
theorem img_bnd {X Y : Cx} {f : List (List (List Int))} {s n : Int} {v : List Int} (hX : IsC X) (hY : IsC Y) (hF : IsFam X Y f s) (h0 : 0 ≤ n) (h1 : n ≤ (X.dims.length : Int) - 1) (hv : (v.length : Int) = X.dims.getD n.toNat 0) (hb : Bnd X.p v) : Bnd X.p (imgP X Y f s n v) := by
 obtain ⟨d, l, k, t⟩ := img_pre hY hF h0 h1 hv
 have hp := isP_bnd hX.p
 exact accP_bnd hp.1 hb t (Bnd.zeros hp.1 _)

set_option maxRecDepth 100000 in
theorem iApp_ok (vX vY vf vv : Value) (X : Cx) (Y : Cx) (f : List (List (List Int))) (s : Int) (n : Int) (v : List Int) (h : Heap) (rX : RC h vX X) (rY : RC h vY Y) (rf : R3 h vf f) (rv : R1 h vv v) (hX : IsC X) (hY : IsC Y) (hF : IsFam X Y f s) (hs : 0 ≤ s ∧ s ≤ 1) (hn : -1 ≤ n ∧ n ≤ 7) (hv : 0 ≤ n ∧ n ≤ (X.dims.length : Int) - 1 → (v.length : Int) = X.dims.getD n.toNat 0 ∧ Bnd X.p v) : CallA Try.prog 64 #[vX, vY, vf, .int .i64 s, .int .i64 n, vv] h fun v' h' => ∃ w0 f0, v' = w0 ∧ O1 h' w0 (appP X Y f s n v) f0 ∧ Fresh h.size f0 ∧ Ext h h' := by
 obtain ⟨vdX, vmX, rfl, hdX, hmX⟩ := rX
 have hledX := RdS.le hdX
 have hlemX := RdS.le hmX
 obtain ⟨vdY, vmY, rfl, hdY, hmY⟩ := rY
 have hledY := RdS.le hdY
 have hlemY := RdS.le hmY
 have hlef := RdS.le rf
 have hlev := RdS.le rv
 have hlX := hX.len
 have hdd := dimP_bnd hY (n + s)
 refine callA_intro TTok (args := [_, _, _, _, _, _]) Try.func64 (by kernel_rfl) rfl 37 rfl (by simp) [.tmp 12] rfl ?_
 simp only [idxs, Nat.reduceAdd]
 refine den_seq ?_
 refine den_region TTok ?_
 intro K hK
 simp -implicitDefEqProofs (disch := first | decide | assumption | omega) only [go_sem, RdS.len hdX sl22, RdS.idx hdX sl22, R1.intB hdX (HPres.refl _), RdS.cells hdX, RdS.len hmX sl23, RdS.idx hmX sl23, RdS.cellB hmX (HPres.refl _), RdS.cells hmX, RdS.len hdY sl22, RdS.idx hdY sl22, R1.intB hdY (HPres.refl _), RdS.cells hdY, RdS.len hmY sl23, RdS.idx hmY sl23, RdS.cellB hmY (HPres.refl _), RdS.cells hmY, RdS.len rf sl23, RdS.idx rf sl23, RdS.cellB rf (HPres.refl _), RdS.cells rf, RdS.len rv sl22, RdS.idx rv sl22, R1.intB rv (HPres.refl _), RdS.cells rv, wrap_id]
 refine op_box (cs := #[.int .i64 (X.p), vdX, vmX]) rfl ?_
 intro h0_0 e0_0 hb0_0 z0_0
 have := Ext.size e0_0
 have eB := e0_0
 have hfhb0_0 : Fresh h.size [h.size] := Fresh.one _
 have hlhb0_0 := one_lt (show h.size < h0_0.size by omega)
 try simp -implicitDefEqProofs (disch := first | decide | assumption | omega) only [go_sem, RdS.len hdX sl22, RdS.idx hdX sl22, R1.intB hdX (Ext.pres eB), RdS.cells hdX, RdS.len hmX sl23, RdS.idx hmX sl23, RdS.cellB hmX (Ext.pres eB), RdS.cells hmX, RdS.len hdY sl22, RdS.idx hdY sl22, R1.intB hdY (Ext.pres eB), RdS.cells hdY, RdS.len hmY sl23, RdS.idx hmY sl23, RdS.cellB hmY (Ext.pres eB), RdS.cells hmY, RdS.len rf sl23, RdS.idx rf sl23, RdS.cellB rf (Ext.pres eB), RdS.cells rf, RdS.len rv sl22, RdS.idx rv sl22, R1.intB rv (Ext.pres eB), RdS.cells rv, BoxAt.cell hb0_0, wrap_id]
 refine op_box (cs := #[.int .i64 (Y.p), vdY, vmY]) rfl ?_
 intro h0_1 e0_1 hb0_1 z0_1
 replace hb0_0 := BoxAt.ext hb0_0 e0_1
 have := Ext.size e0_1
 replace eB := Ext.trans eB e0_1
 have hfhb0_1 : Fresh h0_0.size [h0_0.size] := Fresh.one _
 have hlhb0_1 := one_lt (show h0_0.size < h0_1.size by omega)
 try simp -implicitDefEqProofs (disch := first | decide | assumption | omega) only [go_sem, RdS.len hdX sl22, RdS.idx hdX sl22, R1.intB hdX (Ext.pres eB), RdS.cells hdX, RdS.len hmX sl23, RdS.idx hmX sl23, RdS.cellB hmX (Ext.pres eB), RdS.cells hmX, RdS.len hdY sl22, RdS.idx hdY sl22, R1.intB hdY (Ext.pres eB), RdS.cells hdY, RdS.len hmY sl23, RdS.idx hmY sl23, RdS.cellB hmY (Ext.pres eB), RdS.cells hmY, RdS.len rf sl23, RdS.idx rf sl23, RdS.cellB rf (Ext.pres eB), RdS.cells rf, RdS.len rv sl22, RdS.idx rv sl22, R1.intB rv (Ext.pres eB), RdS.cells rv, BoxAt.cell hb0_0, BoxAt.cell hb0_1, wrap_id]
 refine hK _ _ ?_
 clear hK K
 refine den_seq ?_
 refine den_seq ?_
 refine den_region TTok ?_
 intro K hK
 simp -implicitDefEqProofs (disch := first | decide | assumption | omega) only [go_sem, ld30, RdS.len hdX sl22, RdS.idx hdX sl22, R1.intB hdX (Ext.pres eB), RdS.cells hdX, RdS.len hmX sl23, RdS.idx hmX sl23, RdS.cellB hmX (Ext.pres eB), RdS.cells hmX, RdS.len hdY sl22, RdS.idx hdY sl22, R1.intB hdY (Ext.pres eB), RdS.cells hdY, RdS.len hmY sl23, RdS.idx hmY sl23, RdS.cellB hmY (Ext.pres eB), RdS.cells hmY, RdS.len rf sl23, RdS.idx rf sl23, RdS.cellB rf (Ext.pres eB), RdS.cells rf, RdS.len rv sl22, RdS.idx rv sl22, R1.intB rv (Ext.pres eB), RdS.cells rv, BoxAt.cell hb0_0, BoxAt.cell hb0_1, wrap_id]
 try simp -implicitDefEqProofs (disch := first | decide | assumption | omega) only [go_sem, RdS.len hdX sl22, RdS.idx hdX sl22, R1.intB hdX (Ext.pres eB), RdS.cells hdX, RdS.len hmX sl23, RdS.idx hmX sl23, RdS.cellB hmX (Ext.pres eB), RdS.cells hmX, RdS.len hdY sl22, RdS.idx hdY sl22, R1.intB hdY (Ext.pres eB), RdS.cells hdY, RdS.len hmY sl23, RdS.idx hmY sl23, RdS.cellB hmY (Ext.pres eB), RdS.cells hmY, RdS.len rf sl23, RdS.idx rf sl23, RdS.cellB rf (Ext.pres eB), RdS.cells rf, RdS.len rv sl22, RdS.idx rv sl22, R1.intB rv (Ext.pres eB), RdS.cells rv, BoxAt.cell hb0_0, BoxAt.cell hb0_1, wrap_id]
 refine CallA.mono (top_ok _ X _ ⟨_, _, rfl, (RdS.pres hdX (Ext.pres eB)), (RdS.pres hmX (Ext.pres eB))⟩) ?_
 intro v_ h1_2
 rintro ⟨rfl, e1_2⟩
 replace hb0_0 := BoxAt.ext hb0_0 e1_2
 replace hb0_1 := BoxAt.ext hb0_1 e1_2
 have := Ext.size e1_2
 replace eB := Ext.trans eB e1_2
 try simp -implicitDefEqProofs (disch := first | decide | assumption | omega) only [go_sem, RdS.len hdX sl22, RdS.idx hdX sl22, R1.intB hdX (Ext.pres eB), RdS.cells hdX, RdS.len hmX sl23, RdS.idx hmX sl23, RdS.cellB hmX (Ext.pres eB), RdS.cells hmX, RdS.len hdY sl22, RdS.idx hdY sl22, R1.intB hdY (Ext.pres eB), RdS.cells hdY, RdS.len hmY sl23, RdS.idx hmY sl23, RdS.cellB hmY (Ext.pres eB), RdS.cells hmY, RdS.len rf sl23, RdS.idx rf sl23, RdS.cellB rf (Ext.pres eB), RdS.cells rf, RdS.len rv sl22, RdS.idx rv sl22, R1.intB rv (Ext.pres eB), RdS.cells rv, BoxAt.cell hb0_0, BoxAt.cell hb0_1, wrap_id]
 try simp -implicitDefEqProofs (disch := first | decide | assumption | omega) only [go_sem, RdS.len hdX sl22, RdS.idx hdX sl22, R1.intB hdX (Ext.pres eB), RdS.cells hdX, RdS.len hmX sl23, RdS.idx hmX sl23, RdS.cellB hmX (Ext.pres eB), RdS.cells hmX, RdS.len hdY sl22, RdS.idx hdY sl22, R1.intB hdY (Ext.pres eB), RdS.cells hdY, RdS.len hmY sl23, RdS.idx hmY sl23, RdS.cellB hmY (Ext.pres eB), RdS.cells hmY, RdS.len rf sl23, RdS.idx rf sl23, RdS.cellB rf (Ext.pres eB), RdS.cells rf, RdS.len rv sl22, RdS.idx rv sl22, R1.intB rv (Ext.pres eB), RdS.cells rv, BoxAt.cell hb0_0, BoxAt.cell hb0_1, wrap_id]
 refine CallA.pure (iIn_ok _ _ _ _) ?_
 try simp -implicitDefEqProofs (disch := first | decide | assumption | omega) only [go_sem, RdS.len hdX sl22, RdS.idx hdX sl22, R1.intB hdX (Ext.pres eB), RdS.cells hdX, RdS.len hmX sl23, RdS.idx hmX sl23, RdS.cellB hmX (Ext.pres eB), RdS.cells hmX, RdS.len hdY sl22, RdS.idx hdY sl22, R1.intB hdY (Ext.pres eB), RdS.cells hdY, RdS.len hmY sl23, RdS.idx hmY sl23, RdS.cellB hmY (Ext.pres eB), RdS.cells hmY, RdS.len rf sl23, RdS.idx rf sl23, RdS.cellB rf (Ext.pres eB), RdS.cells rf, RdS.len rv sl22, RdS.idx rv sl22, R1.intB rv (Ext.pres eB), RdS.cells rv, BoxAt.cell hb0_0, BoxAt.cell hb0_1, wrap_id]
 refine hK _ _ ?_
 clear hK K
 refine den_cond rfl (fun c0 => ?_) (fun c0 => ?_)
 ·try simp only [decide_eq_true_eq, decide_eq_false_iff_not, beq_iff_eq, beq_eq_false_iff_ne, bne_iff_ne, ne_eq, Bool.not_eq_true', Bool.not_eq_false', Bool.and_eq_true, Bool.or_eq_true, bne_eq_false_iff_eq, in3_iff, in3_f] at c0
  refine den_seq ?_
  refine den_region TTok ?_
  intro K hK
  simp -implicitDefEqProofs (disch := first | decide | assumption | omega) only [go_sem, ld30, RdS.len hdX sl22, RdS.idx hdX sl22, R1.intB hdX (Ext.pres eB), RdS.cells hdX, RdS.len hmX sl23, RdS.idx hmX sl23, RdS.cellB hmX (Ext.pres eB), RdS.cells hmX, RdS.len hdY sl22, RdS.idx hdY sl22, R1.intB hdY (Ext.pres eB), RdS.cells hdY, RdS.len hmY sl23, RdS.idx hmY sl23, RdS.cellB hmY (Ext.pres eB), RdS.cells hmY, RdS.len rf sl23, RdS.idx rf sl23, RdS.cellB rf (Ext.pres eB), RdS.cells rf, RdS.len rv sl22, RdS.idx rv sl22, R1.intB rv (Ext.pres eB), RdS.cells rv, BoxAt.cell hb0_1, wrap_id]
  try simp -implicitDefEqProofs (disch := first | decide | assumption | omega) only [go_sem, RdS.len hdX sl22, RdS.idx hdX sl22, R1.intB hdX (Ext.pres eB), RdS.cells hdX, RdS.len hmX sl23, RdS.idx hmX sl23, RdS.cellB hmX (Ext.pres eB), RdS.cells hmX, RdS.len hdY sl22, RdS.idx hdY sl22, R1.intB hdY (Ext.pres eB), RdS.cells hdY, RdS.len hmY sl23, RdS.idx hmY sl23, RdS.cellB hmY (Ext.pres eB), RdS.cells hmY, RdS.len rf sl23, RdS.idx rf sl23, RdS.cellB rf (Ext.pres eB), RdS.cells rf, RdS.len rv sl22, RdS.idx rv sl22, R1.intB rv (Ext.pres eB), RdS.cells rv, BoxAt.cell hb0_1, wrap_id]
  refine CallA.mono (iDim_ok _ Y _ _ ⟨_, _, rfl, (RdS.pres hdY (Ext.pres eB)), (RdS.pres hmY (Ext.pres eB))⟩) ?_
  intro v_ h2_4
  rintro ⟨rfl, e2_4⟩
  replace hb0_1 := BoxAt.ext hb0_1 e2_4
  have := Ext.size e2_4
  replace eB := Ext.trans eB e2_4
  try simp -implicitDefEqProofs (disch := first | decide | assumption | omega) only [go_sem, RdS.len hdX sl22, RdS.idx hdX sl22, R1.intB hdX (Ext.pres eB), RdS.cells hdX, RdS.len hmX sl23, RdS.idx hmX sl23, RdS.cellB hmX (Ext.pres eB), RdS.cells hmX, RdS.len hdY sl22, RdS.idx hdY sl22, R1.intB hdY (Ext.pres eB), RdS.cells hdY, RdS.len hmY sl23, RdS.idx hmY sl23, RdS.cellB hmY (Ext.pres eB), RdS.cells hmY, RdS.len rf sl23, RdS.idx rf sl23, RdS.cellB rf (Ext.pres eB), RdS.cells rf, RdS.len rv sl22, RdS.idx rv sl22, R1.intB rv (Ext.pres eB), RdS.cells rv, BoxAt.cell hb0_1, wrap_id]
  refine op_make sz22 rfl rfl (by omega) (by omega) OI 0 (fun _ => ⟨rfl, rfl⟩) ?_
  intro v2_5 h2_5 ho2_5 e2_5
  replace hb0_1 := BoxAt.ext hb0_1 e2_5
  have := Ext.size e2_5
  replace eB := Ext.trans eB e2_5
  have hfho2_5 : Fresh h2_4.size [h2_4.size] := Fresh.one _
  have hlenho2_5 : (List.replicate ((dimP Y (n + s))).toNat (0 : Int)).length = ((dimP Y (n + s))).toNat := List.length_replicate
  have hlho2_5 := OS.lt ho2_5
  try simp -implicitDefEqProofs (disch := first | decide | assumption | omega) only [go_sem, RdS.len hdX sl22, RdS.idx hdX sl22, R1.intB hdX (Ext.pres eB), RdS.cells hdX, RdS.len hmX sl23, RdS.idx hmX sl23, RdS.cellB hmX (Ext.pres eB), RdS.cells hmX, RdS.len hdY sl22, RdS.idx hdY sl22, R1.intB hdY (Ext.pres eB), RdS.cells hdY, RdS.len hmY sl23, RdS.idx hmY sl23, RdS.cellB hmY (Ext.pres eB), RdS.cells hmY, RdS.len rf sl23, RdS.idx rf sl23, RdS.cellB rf (Ext.pres eB), RdS.cells rf, RdS.len rv sl22, RdS.idx rv sl22, R1.intB rv (Ext.pres eB), RdS.cells rv, RdS.len (OS.rd ho2_5) sl22, RdS.idx (OS.rd ho2_5) sl22, R1.intN (OS.rd ho2_5), RdS.cells (OS.rd ho2_5), BoxAt.cell hb0_1, wrap_id]
  refine hK _ _ ?_
  clear hK K
  refine den_ret ?_
  simp (disch := decide) only [resP_1, puts_same, puts_ne]
  have e : appP X Y f s n v = List.replicate (dimP Y (n + s)).toNat 0 := by rw [appP, if_neg (by rw [in3_iff]; omega)]
  rw [e]
  exact ⟨_, _, rfl, ho2_5, hfho2_5.mono (by omega), eB⟩
 ·try simp only [decide_eq_true_eq, decide_eq_false_iff_not, beq_iff_eq, beq_eq_false_iff_ne, bne_iff_ne, ne_eq, Bool.not_eq_true', Bool.not_eq_false', Bool.and_eq_true, Bool.or_eq_true, bne_eq_false_iff_eq, in3_iff, in3_f] at c0
  refine den_skip ?_
  refine den_seq ?_
  obtain ⟨hd1, hd2, hd3, hbt⟩ := img_pre (n := n) (v := v) hY hF (by omega) (by omega) (hv (by omega)).1
  have hbv := (hv (by omega)).2
  have hpb := isP_bnd hX.p
  refine den_draw TTok mixed [] [(0, true), (1, true), (2, true), (3, true), (4, true), (5, true), (7, true), (8, true), (9, true), (10, true), (11, true), (6, false), (12, false), (13, true)] (by kernel_rfl) ?_
  intro K hK
  have hr1 := RdS.rowN rf (n).toNat (by omega)
  have hlhr1 := RdS.le hr1
  simp -implicitDefEqProofs (disch := first | decide | assumption | omega) only [go_sem, fa30_0, ld36, ld2, ld30, RdS.len hdX sl22, RdS.idx hdX sl22, R1.intB hdX (Ext.pres eB), RdS.cells hdX, RdS.len hmX sl23, RdS.idx hmX sl23, RdS.cellB hmX (Ext.pres eB), RdS.cells hmX, RdS.len hdY sl22, RdS.idx hdY sl22, R1.intB hdY (Ext.pres eB), RdS.cells hdY, RdS.len hmY sl23, RdS.idx hmY sl23, RdS.cellB hmY (Ext.pres eB), RdS.cells hmY, RdS.len rf sl23, RdS.idx rf sl23, RdS.cellB rf (Ext.pres eB), RdS.cells rf, RdS.len rv sl22, RdS.idx rv sl22, R1.intB rv (Ext.pres eB), RdS.cells rv, RdS.len hr1 sl36, RdS.idx hr1 sl36, RdS.cellB hr1 (Ext.pres eB), RdS.cells hr1, BoxAt.cell hb0_0, BoxAt.cell hb0_1, wrap_id]
  try simp -implicitDefEqProofs (disch := first | decide | assumption | omega) only [go_sem, RdS.len hdX sl22, RdS.idx hdX sl22, R1.intB hdX (Ext.pres eB), RdS.cells hdX, RdS.len hmX sl23, RdS.idx hmX sl23, RdS.cellB hmX (Ext.pres eB), RdS.cells hmX, RdS.len hdY sl22, RdS.idx hdY sl22, R1.intB hdY (Ext.pres eB), RdS.cells hdY, RdS.len hmY sl23, RdS.idx hmY sl23, RdS.cellB hmY (Ext.pres eB), RdS.cells hmY, RdS.len rf sl23, RdS.idx rf sl23, RdS.cellB rf (Ext.pres eB), RdS.cells rf, RdS.len rv sl22, RdS.idx rv sl22, R1.intB rv (Ext.pres eB), RdS.cells rv, RdS.len hr1 sl36, RdS.idx hr1 sl36, RdS.cellB hr1 (Ext.pres eB), RdS.cells hr1, BoxAt.cell hb0_0, BoxAt.cell hb0_1, wrap_id]
  refine CallA.mono (iDim_ok _ Y _ _ ⟨_, _, rfl, (RdS.pres hdY (Ext.pres eB)), (RdS.pres hmY (Ext.pres eB))⟩) ?_
  intro v_ h3_6
  rintro ⟨rfl, e3_6⟩
  replace hb0_0 := BoxAt.ext hb0_0 e3_6
  replace hb0_1 := BoxAt.ext hb0_1 e3_6
  have := Ext.size e3_6
  replace eB := Ext.trans eB e3_6
  try simp (disch := decide) only [outv_some, outv_none, put_puts]
  refine plK_pres (Ext.pres e3_6) ?_
  try simp -implicitDefEqProofs (disch := first | decide | assumption | omega) only [go_sem, RdS.len hdX sl22, RdS.idx hdX sl22, R1.intB hdX (Ext.pres eB), RdS.cells hdX, RdS.len hmX sl23, RdS.idx hmX sl23, RdS.cellB hmX (Ext.pres eB), RdS.cells hmX, RdS.len hdY sl22, RdS.idx hdY sl22, R1.intB hdY (Ext.pres eB), RdS.cells hdY, RdS.len hmY sl23, RdS.idx hmY sl23, RdS.cellB hmY (Ext.pres eB), RdS.cells hmY, RdS.len rf sl23, RdS.idx rf sl23, RdS.cellB rf (Ext.pres eB), RdS.cells rf, RdS.len rv sl22, RdS.idx rv sl22, R1.intB rv (Ext.pres eB), RdS.cells rv, RdS.len hr1 sl36, RdS.idx hr1 sl36, RdS.cellB hr1 (Ext.pres eB), RdS.cells hr1, BoxAt.cell hb0_0, BoxAt.cell hb0_1, wrap_id]
  try simp -implicitDefEqProofs (disch := first | decide | assumption | omega) only [go_sem, RdS.len hdX sl22, RdS.idx hdX sl22, R1.intB hdX (Ext.pres eB), RdS.cells hdX, RdS.len hmX sl23, RdS.idx hmX sl23, RdS.cellB hmX (Ext.pres eB), RdS.cells hmX, RdS.len hdY sl22, RdS.idx hdY sl22, R1.intB hdY (Ext.pres eB), RdS.cells hdY, RdS.len hmY sl23, RdS.idx hmY sl23, RdS.cellB hmY (Ext.pres eB), RdS.cells hmY, RdS.len rf sl23, RdS.idx rf sl23, RdS.cellB rf (Ext.pres eB), RdS.cells rf, RdS.len rv sl22, RdS.idx rv sl22, R1.intB rv (Ext.pres eB), RdS.cells rv, RdS.len hr1 sl36, RdS.idx hr1 sl36, RdS.cellB hr1 (Ext.pres eB), RdS.cells hr1, BoxAt.cell hb0_0, BoxAt.cell hb0_1, wrap_id]
  refine CallA.mono (iApply_ok _ _ _ _ _ _ _ (RdS.pres rv (Ext.pres eB)) (RdS.pres hr1 (Ext.pres eB)) (by omega) (by omega) (by omega) hbv hbt) ?_
  intro v3_12 h3_12
  rintro ⟨f3_12, ho3_12, hf3_12, e3_12⟩
  replace hb0_0 := BoxAt.ext hb0_0 e3_12
  replace hb0_1 := BoxAt.ext hb0_1 e3_12
  have := Ext.size e3_12
  replace eB := Ext.trans eB e3_12
  have hlho3_12 := OS.lt ho3_12
  try simp (disch := decide) only [outv_some, outv_none, put_puts]
  refine plK_pres (Ext.pres e3_12) ?_
  try simp -implicitDefEqProofs (disch := first | decide | assumption | omega) only [go_sem, RdS.len hdX sl22, RdS.idx hdX sl22, R1.intB hdX (Ext.pres eB), RdS.cells hdX, RdS.len hmX sl23, RdS.idx hmX sl23, RdS.cellB hmX (Ext.pres eB), RdS.cells hmX, RdS.len hdY sl22, RdS.idx hdY sl22, R1.intB hdY (Ext.pres eB), RdS.cells hdY, RdS.len hmY sl23, RdS.idx hmY sl23, RdS.cellB hmY (Ext.pres eB), RdS.cells hmY, RdS.len rf sl23, RdS.idx rf sl23, RdS.cellB rf (Ext.pres eB), RdS.cells rf, RdS.len rv sl22, RdS.idx rv sl22, R1.intB rv (Ext.pres eB), RdS.cells rv, RdS.len hr1 sl36, RdS.idx hr1 sl36, RdS.cellB hr1 (Ext.pres eB), RdS.cells hr1, RdS.len (OS.rd ho3_12) sl22, RdS.idx (OS.rd ho3_12) sl22, R1.intN (OS.rd ho3_12), RdS.cells (OS.rd ho3_12), BoxAt.cell hb0_0, BoxAt.cell hb0_1, wrap_id]
  refine hK _ _ ?_
  clear hK K
  refine den_ret ?_
  simp (disch := decide) only [resP_1, puts_same, puts_ne]
  have e : appP X Y f s n v = imgP X Y f s n v := by rw [appP, if_pos (by rw [in3_iff]; omega)]
  rw [e]
  exact ⟨_, _, rfl, ho3_12, hf3_12.mono (by omega), eB⟩

set_option maxRecDepth 100000 in
theorem sImg_ok (vX vY vf vv : Value) (X : Cx) (Y : Cx) (f : List (List (List Int))) (n : Int) (s : Int) (v : List Int) (h : Heap) (rX : RC h vX X) (rY : RC h vY Y) (rf : R3 h vf f) (rv : R1 h vv v) (hX : IsC X) (hY : IsC Y) (hF : IsFam X Y f s) (hs : 0 ≤ s ∧ s ≤ 1) (hn : 0 ≤ n ∧ n ≤ (X.dims.length : Int) - 1) (hv : 0 ≤ n ∧ n ≤ (X.dims.length : Int) - 1 → (v.length : Int) = X.dims.getD n.toNat 0 ∧ Bnd X.p v) : CallA Try.prog 99 #[vX, vY, vf, .int .i64 n, .int .i64 s, vv] h fun v' h' => ∃ w0 f0, v' = w0 ∧ O1 h' w0 (imgP X Y f s n v) f0 ∧ Fresh h.size f0 ∧ Ext h h' := by
 obtain ⟨vdX, vmX, rfl, hdX, hmX⟩ := rX
 have hledX := RdS.le hdX
 have hlemX := RdS.le hmX
 obtain ⟨vdY, vmY, rfl, hdY, hmY⟩ := rY
 have hledY := RdS.le hdY
 have hlemY := RdS.le hmY
 have hlef := RdS.le rf
 have hlev := RdS.le rv
 have hlX := hX.len
 refine callA_intro TTok (args := [_, _, _, _, _, _]) Try.func99 (by kernel_rfl) rfl 26 rfl (by simp) [.tmp 12] rfl ?_
 simp only [idxs, Nat.reduceAdd]
 refine den_seq ?_
 refine den_region TTok ?_
 intro K hK
 simp -implicitDefEqProofs (disch := first | decide | assumption | omega) only [go_sem, RdS.len hdX sl22, RdS.idx hdX sl22, R1.intB hdX (HPres.refl _), RdS.cells hdX, RdS.len hmX sl23, RdS.idx hmX sl23, RdS.cellB hmX (HPres.refl _), RdS.cells hmX, RdS.len hdY sl22, RdS.idx hdY sl22, R1.intB hdY (HPres.refl _), RdS.cells hdY, RdS.len hmY sl23, RdS.idx hmY sl23, RdS.cellB hmY (HPres.refl _), RdS.cells hmY, RdS.len rf sl23, RdS.idx rf sl23, RdS.cellB rf (HPres.refl _), RdS.cells rf, RdS.len rv sl22, RdS.idx rv sl22, R1.intB rv (HPres.refl _), RdS.cells rv, wrap_id]
 refine op_box (cs := #[.int .i64 (X.p), vdX, vmX]) rfl ?_
 intro h0_0 e0_0 hb0_0 z0_0
 have := Ext.size e0_0
 have eB := e0_0
 have hfhb0_0 : Fresh h.size [h.size] := Fresh.one _
 have hlhb0_0 := one_lt (show h.size < h0_0.size by omega)
 try simp -implicitDefEqProofs (disch := first | decide | assumption | omega) only [go_sem, RdS.len hdX sl22, RdS.idx hdX sl22, R1.intB hdX (Ext.pres eB), RdS.cells hdX, RdS.len hmX sl23, RdS.idx hmX sl23, RdS.cellB hmX (Ext.pres eB), RdS.cells hmX, RdS.len hdY sl22, RdS.idx hdY sl22, R1.intB hdY (Ext.pres eB), RdS.cells hdY, RdS.len hmY sl23, RdS.idx hmY sl23, RdS.cellB hmY (Ext.pres eB), RdS.cells hmY, RdS.len rf sl23, RdS.idx rf sl23, RdS.cellB rf (Ext.pres eB), RdS.cells rf, RdS.len rv sl22, RdS.idx rv sl22, R1.intB rv (Ext.pres eB), RdS.cells rv, BoxAt.cell hb0_0, wrap_id]
 refine op_box (cs := #[.int .i64 (Y.p), vdY, vmY]) rfl ?_
 intro h0_1 e0_1 hb0_1 z0_1
 replace hb0_0 := BoxAt.ext hb0_0 e0_1
 have := Ext.size e0_1
 replace eB := Ext.trans eB e0_1
 have hfhb0_1 : Fresh h0_0.size [h0_0.size] := Fresh.one _
 have hlhb0_1 := one_lt (show h0_0.size < h0_1.size by omega)
 try simp -implicitDefEqProofs (disch := first | decide | assumption | omega) only [go_sem, RdS.len hdX sl22, RdS.idx hdX sl22, R1.intB hdX (Ext.pres eB), RdS.cells hdX, RdS.len hmX sl23, RdS.idx hmX sl23, RdS.cellB hmX (Ext.pres eB), RdS.cells hmX, RdS.len hdY sl22, RdS.idx hdY sl22, R1.intB hdY (Ext.pres eB), RdS.cells hdY, RdS.len hmY sl23, RdS.idx hmY sl23, RdS.cellB hmY (Ext.pres eB), RdS.cells hmY, RdS.len rf sl23, RdS.idx rf sl23, RdS.cellB rf (Ext.pres eB), RdS.cells rf, RdS.len rv sl22, RdS.idx rv sl22, R1.intB rv (Ext.pres eB), RdS.cells rv, BoxAt.cell hb0_0, BoxAt.cell hb0_1, wrap_id]
 refine hK _ _ ?_
 clear hK K
 refine den_seq ?_
 obtain ⟨hd1, hd2, hd3, hbt⟩ := img_pre (n := n) (v := v) hY hF (by omega) (by omega) (hv (by omega)).1
 have hbv := (hv (by omega)).2
 have hpb := isP_bnd hX.p
 refine den_draw TTok mixed [] [(0, true), (1, true), (2, true), (3, true), (4, true), (5, true), (6, true), (7, true), (8, true), (9, true), (10, true), (11, false), (12, false), (13, true)] (by kernel_rfl) ?_
 intro K hK
 have hr1 := RdS.rowN rf (n).toNat (by omega)
 have hlhr1 := RdS.le hr1
 simp -implicitDefEqProofs (disch := first | decide | assumption | omega) only [go_sem, fa30_0, ld36, ld2, ld30, RdS.len hdX sl22, RdS.idx hdX sl22, R1.intB hdX (Ext.pres eB), RdS.cells hdX, RdS.len hmX sl23, RdS.idx hmX sl23, RdS.cellB hmX (Ext.pres eB), RdS.cells hmX, RdS.len hdY sl22, RdS.idx hdY sl22, R1.intB hdY (Ext.pres eB), RdS.cells hdY, RdS.len hmY sl23, RdS.idx hmY sl23, RdS.cellB hmY (Ext.pres eB), RdS.cells hmY, RdS.len rf sl23, RdS.idx rf sl23, RdS.cellB rf (Ext.pres eB), RdS.cells rf, RdS.len rv sl22, RdS.idx rv sl22, R1.intB rv (Ext.pres eB), RdS.cells rv, RdS.len hr1 sl36, RdS.idx hr1 sl36, RdS.cellB hr1 (Ext.pres eB), RdS.cells hr1, BoxAt.cell hb0_0, BoxAt.cell hb0_1, wrap_id]
 try simp -implicitDefEqProofs (disch := first | decide | assumption | omega) only [go_sem, RdS.len hdX sl22, RdS.idx hdX sl22, R1.intB hdX (Ext.pres eB), RdS.cells hdX, RdS.len hmX sl23, RdS.idx hmX sl23, RdS.cellB hmX (Ext.pres eB), RdS.cells hmX, RdS.len hdY sl22, RdS.idx hdY sl22, R1.intB hdY (Ext.pres eB), RdS.cells hdY, RdS.len hmY sl23, RdS.idx hmY sl23, RdS.cellB hmY (Ext.pres eB), RdS.cells hmY, RdS.len rf sl23, RdS.idx rf sl23, RdS.cellB rf (Ext.pres eB), RdS.cells rf, RdS.len rv sl22, RdS.idx rv sl22, R1.intB rv (Ext.pres eB), RdS.cells rv, RdS.len hr1 sl36, RdS.idx hr1 sl36, RdS.cellB hr1 (Ext.pres eB), RdS.cells hr1, BoxAt.cell hb0_0, BoxAt.cell hb0_1, wrap_id]
 refine CallA.mono (sDim_ok _ Y _ _ ⟨_, _, rfl, (RdS.pres hdY (Ext.pres eB)), (RdS.pres hmY (Ext.pres eB))⟩) ?_
 intro v_ h1_11
 rintro ⟨rfl, e1_11⟩
 replace hb0_0 := BoxAt.ext hb0_0 e1_11
 replace hb0_1 := BoxAt.ext hb0_1 e1_11
 have := Ext.size e1_11
 replace eB := Ext.trans eB e1_11
 try simp (disch := decide) only [outv_some, outv_none, put_puts]
 refine plK_pres (Ext.pres e1_11) ?_
 try simp -implicitDefEqProofs (disch := first | decide | assumption | omega) only [go_sem, RdS.len hdX sl22, RdS.idx hdX sl22, R1.intB hdX (Ext.pres eB), RdS.cells hdX, RdS.len hmX sl23, RdS.idx hmX sl23, RdS.cellB hmX (Ext.pres eB), RdS.cells hmX, RdS.len hdY sl22, RdS.idx hdY sl22, R1.intB hdY (Ext.pres eB), RdS.cells hdY, RdS.len hmY sl23, RdS.idx hmY sl23, RdS.cellB hmY (Ext.pres eB), RdS.cells hmY, RdS.len rf sl23, RdS.idx rf sl23, RdS.cellB rf (Ext.pres eB), RdS.cells rf, RdS.len rv sl22, RdS.idx rv sl22, R1.intB rv (Ext.pres eB), RdS.cells rv, RdS.len hr1 sl36, RdS.idx hr1 sl36, RdS.cellB hr1 (Ext.pres eB), RdS.cells hr1, BoxAt.cell hb0_0, BoxAt.cell hb0_1, wrap_id]
 try simp -implicitDefEqProofs (disch := first | decide | assumption | omega) only [go_sem, RdS.len hdX sl22, RdS.idx hdX sl22, R1.intB hdX (Ext.pres eB), RdS.cells hdX, RdS.len hmX sl23, RdS.idx hmX sl23, RdS.cellB hmX (Ext.pres eB), RdS.cells hmX, RdS.len hdY sl22, RdS.idx hdY sl22, R1.intB hdY (Ext.pres eB), RdS.cells hdY, RdS.len hmY sl23, RdS.idx hmY sl23, RdS.cellB hmY (Ext.pres eB), RdS.cells hmY, RdS.len rf sl23, RdS.idx rf sl23, RdS.cellB rf (Ext.pres eB), RdS.cells rf, RdS.len rv sl22, RdS.idx rv sl22, R1.intB rv (Ext.pres eB), RdS.cells rv, RdS.len hr1 sl36, RdS.idx hr1 sl36, RdS.cellB hr1 (Ext.pres eB), RdS.cells hr1, BoxAt.cell hb0_0, BoxAt.cell hb0_1, wrap_id]
 refine CallA.mono (sApply_ok _ _ _ _ _ _ _ (RdS.pres rv (Ext.pres eB)) (RdS.pres hr1 (Ext.pres eB)) (by omega) (by omega) (by omega) hbv hbt) ?_
 intro v1_12 h1_12
 rintro ⟨f1_12, ho1_12, hf1_12, e1_12⟩
 replace hb0_0 := BoxAt.ext hb0_0 e1_12
 replace hb0_1 := BoxAt.ext hb0_1 e1_12
 have := Ext.size e1_12
 replace eB := Ext.trans eB e1_12
 have hlho1_12 := OS.lt ho1_12
 try simp (disch := decide) only [outv_some, outv_none, put_puts]
 refine plK_pres (Ext.pres e1_12) ?_
 try simp -implicitDefEqProofs (disch := first | decide | assumption | omega) only [go_sem, RdS.len hdX sl22, RdS.idx hdX sl22, R1.intB hdX (Ext.pres eB), RdS.cells hdX, RdS.len hmX sl23, RdS.idx hmX sl23, RdS.cellB hmX (Ext.pres eB), RdS.cells hmX, RdS.len hdY sl22, RdS.idx hdY sl22, R1.intB hdY (Ext.pres eB), RdS.cells hdY, RdS.len hmY sl23, RdS.idx hmY sl23, RdS.cellB hmY (Ext.pres eB), RdS.cells hmY, RdS.len rf sl23, RdS.idx rf sl23, RdS.cellB rf (Ext.pres eB), RdS.cells rf, RdS.len rv sl22, RdS.idx rv sl22, R1.intB rv (Ext.pres eB), RdS.cells rv, RdS.len hr1 sl36, RdS.idx hr1 sl36, RdS.cellB hr1 (Ext.pres eB), RdS.cells hr1, RdS.len (OS.rd ho1_12) sl22, RdS.idx (OS.rd ho1_12) sl22, R1.intN (OS.rd ho1_12), RdS.cells (OS.rd ho1_12), BoxAt.cell hb0_0, BoxAt.cell hb0_1, wrap_id]
 refine hK _ _ ?_
 clear hK K
 refine den_ret ?_
 simp (disch := decide) only [resP_1, puts_same, puts_ne]
 exact ⟨_, _, rfl, ho1_12, hf1_12.mono (by omega), eB⟩
end Go.Proofs.Ytbplnadngahgaaa

namespace Go.Proofs.Ytbplnadngahgaaa
open Go
theorem unit_bnd {p : Int} (hp : isP p = true) (n i : Nat) : Bnd p (unitP n i) := fun x hx => by
 have h2 : 2 ≤ p := by simp only [isP, Bool.or_eq_true, beq_iff_eq] at hp; omega
 unfold unitP at hx
 rcases List.mem_or_eq_of_mem_set hx with h1 | h1
 ·rw [List.eq_of_mem_replicate h1]; omega
 ·omega

set_option maxRecDepth 100000 in
theorem sD_ok (vX vv : Value) (X : Cx) (n : Int) (v : List Int) (h : Heap) (rX : RC h vX X) (rv : R1 h vv v) (hC : IsC X) (hn : 0 ≤ n ∧ n ≤ (X.dims.length : Int) - 1) (hv : (v.length : Int) = X.dims.getD n.toNat 0) (hb : Bnd X.p v) : CallA Try.prog 139 #[vX, .int .i64 n, vv] h fun v' h' => ∃ w0 f0, v' = w0 ∧ O1 h' w0 (diffP X n v) f0 ∧ Fresh h.size f0 ∧ Ext h h' := by
 obtain ⟨vdX, vmX, rfl, hdX, hmX⟩ := rX
 have hledX := RdS.le hdX
 have hlemX := RdS.le hmX
 have hlev := RdS.le rv
 refine callA_intro TTok (args := [_, _, _]) Try.func139 (by kernel_rfl) rfl 21 rfl (by simp) [.tmp 6] rfl ?_
 simp only [idxs, Nat.reduceAdd]
 refine den_seq ?_
 refine den_region TTok ?_
 intro K hK
 simp -implicitDefEqProofs (disch := first | decide | assumption | omega) only [go_sem, RdS.len hdX sl22, RdS.idx hdX sl22, R1.intB hdX (HPres.refl _), RdS.cells hdX, RdS.len hmX sl23, RdS.idx hmX sl23, RdS.cellB hmX (HPres.refl _), RdS.cells hmX, RdS.len rv sl22, RdS.idx rv sl22, R1.intB rv (HPres.refl _), RdS.cells rv, wrap_id]
 refine op_box (cs := #[.int .i64 (X.p), vdX, vmX]) rfl ?_
 intro h0_0 e0_0 hb0_0 z0_0
 have := Ext.size e0_0
 have eB := e0_0
 have hfhb0_0 : Fresh h.size [h.size] := Fresh.one _
 have hlhb0_0 := one_lt (show h.size < h0_0.size by omega)
 try simp -implicitDefEqProofs (disch := first | decide | assumption | omega) only [go_sem, RdS.len hdX sl22, RdS.idx hdX sl22, R1.intB hdX (Ext.pres eB), RdS.cells hdX, RdS.len hmX sl23, RdS.idx hmX sl23, RdS.cellB hmX (Ext.pres eB), RdS.cells hmX, RdS.len rv sl22, RdS.idx rv sl22, R1.intB rv (Ext.pres eB), RdS.cells rv, BoxAt.cell hb0_0, wrap_id]
 refine hK _ _ ?_
 clear hK K
 refine den_seq ?_
 refine den_seq ?_
 refine den_region TTok ?_
 intro K hK
 simp -implicitDefEqProofs (disch := first | decide | assumption | omega) only [go_sem, RdS.len hdX sl22, RdS.idx hdX sl22, R1.intB hdX (Ext.pres eB), RdS.cells hdX, RdS.len hmX sl23, RdS.idx hmX sl23, RdS.cellB hmX (Ext.pres eB), RdS.cells hmX, RdS.len rv sl22, RdS.idx rv sl22, R1.intB rv (Ext.pres eB), RdS.cells rv, BoxAt.cell hb0_0, wrap_id]
 refine hK _ _ ?_
 clear hK K
 refine den_cond rfl (fun c0 => ?_) (fun c0 => ?_)
 ·try simp only [decide_eq_true_eq, decide_eq_false_iff_not, beq_iff_eq, beq_eq_false_iff_ne, bne_iff_ne, ne_eq, Bool.not_eq_true', Bool.not_eq_false', Bool.and_eq_true, Bool.or_eq_true, bne_eq_false_iff_eq] at c0
  refine den_seq ?_
  refine den_region TTok ?_
  intro K hK
  simp -implicitDefEqProofs (disch := first | decide | assumption | omega) only [go_sem, RdS.len hdX sl22, RdS.idx hdX sl22, R1.intB hdX (Ext.pres eB), RdS.cells hdX, RdS.len hmX sl23, RdS.idx hmX sl23, RdS.cellB hmX (Ext.pres eB), RdS.cells hmX, RdS.len rv sl22, RdS.idx rv sl22, R1.intB rv (Ext.pres eB), RdS.cells rv, wrap_id]
  refine op_bs0 sz22 OI ?_
  intro v2_0 h2_0 ho2_0 e2_0
  have := Ext.size e2_0
  replace eB := Ext.trans eB e2_0
  have hfho2_0 : Fresh h0_0.size [h0_0.size] := Fresh.one _
  have hlho2_0 := OS.lt ho2_0
  try simp -implicitDefEqProofs (disch := first | decide | assumption | omega) only [go_sem, RdS.len hdX sl22, RdS.idx hdX sl22, R1.intB hdX (Ext.pres eB), RdS.cells hdX, RdS.len hmX sl23, RdS.idx hmX sl23, RdS.cellB hmX (Ext.pres eB), RdS.cells hmX, RdS.len rv sl22, RdS.idx rv sl22, R1.intB rv (Ext.pres eB), RdS.cells rv, RdS.len (OS.rd ho2_0) sl22, RdS.idx (OS.rd ho2_0) sl22, R1.intN (OS.rd ho2_0), RdS.cells (OS.rd ho2_0), wrap_id]
  refine hK _ _ ?_
  clear hK K
  refine den_ret ?_
  simp (disch := decide) only [resP_1, puts_same, puts_ne]
  have e : diffP X n v = [] := by rw [diffP, if_pos (by omega)]
  rw [e]
  exact ⟨_, _, rfl, ho2_0, hfho2_0.mono (by omega), eB⟩
 ·try simp only [decide_eq_true_eq, decide_eq_false_iff_not, beq_iff_eq, beq_eq_false_iff_ne, bne_iff_ne, ne_eq, Bool.not_eq_true', Bool.not_eq_false', Bool.and_eq_true, Bool.or_eq_true, bne_eq_false_iff_eq] at c0
  refine den_skip ?_
  refine den_seq ?_
  have hbv := hb
  have hbt := (mapP_ok hC hn.1 hn.2).2
  have hml := (mapP_ok hC hn.1 hn.2).1
  have hdb := dimP_bnd hC (n - 1)
  have hpb := isP_bnd hC.p
  have hlX := hC.len
  refine den_draw TTok mixed [] [(0, true), (1, true), (2, true), (3, true), (5, true), (6, true), (7, true), (8, true), (4, false), (9, false), (10, false), (11, true)] (by kernel_rfl) ?_
  intro K hK
  simp -implicitDefEqProofs (disch := first | decide | assumption | omega) only [go_sem, fa30_0, ld2, ld30, RdS.len hdX sl22, RdS.idx hdX sl22, R1.intB hdX (Ext.pres eB), RdS.cells hdX, RdS.len hmX sl23, RdS.idx hmX sl23, RdS.cellB hmX (Ext.pres eB), RdS.cells hmX, RdS.len rv sl22, RdS.idx rv sl22, R1.intB rv (Ext.pres eB), RdS.cells rv, BoxAt.cell hb0_0, wrap_id]
  try simp -implicitDefEqProofs (disch := first | decide | assumption | omega) only [go_sem, RdS.len hdX sl22, RdS.idx hdX sl22, R1.intB hdX (Ext.pres eB), RdS.cells hdX, RdS.len hmX sl23, RdS.idx hmX sl23, RdS.cellB hmX (Ext.pres eB), RdS.cells hmX, RdS.len rv sl22, RdS.idx rv sl22, R1.intB rv (Ext.pres eB), RdS.cells rv, BoxAt.cell hb0_0, wrap_id]
  refine CallA.mono (sMap_ok _ X n _ ⟨_, _, rfl, (RdS.pres hdX (Ext.pres eB)), (RdS.pres hmX (Ext.pres eB))⟩ hC) ?_
  intro vw3_4_0 h3_4
  rintro ⟨zvw3_4_0, rfl, hrw3_4_0, e3_4⟩
  replace hb0_0 := BoxAt.ext hb0_0 e3_4
  have := Ext.size e3_4
  replace eB := Ext.trans eB e3_4
  have xrw3_4_0 := Ext.refl h3_4
  have hlrw3_4_0 := RdS.le hrw3_4_0
  try simp (disch := decide) only [outv_some, outv_none, put_puts]
  refine plK_pres (Ext.pres e3_4) ?_
  try simp -implicitDefEqProofs (disch := first | decide | assumption | omega) only [go_sem, RdS.len hdX sl22, RdS.idx hdX sl22, R1.intB hdX (Ext.pres eB), RdS.cells hdX, RdS.len hmX sl23, RdS.idx hmX sl23, RdS.cellB hmX (Ext.pres eB), RdS.cells hmX, RdS.len rv sl22, RdS.idx rv sl22, R1.intB rv (Ext.pres eB), RdS.cells rv, BoxAt.cell hb0_0, RdS.len hrw3_4_0 sl36, RdS.idx hrw3_4_0 sl36, RdS.cellB hrw3_4_0 (Ext.pres xrw3_4_0), RdS.cells hrw3_4_0, wrap_id]
  try simp -implicitDefEqProofs (disch := first | decide | assumption | omega) only [go_sem, RdS.len hdX sl22, RdS.idx hdX sl22, R1.intB hdX (Ext.pres eB), RdS.cells hdX, RdS.len hmX sl23, RdS.idx hmX sl23, RdS.cellB hmX (Ext.pres eB), RdS.cells hmX, RdS.len rv sl22, RdS.idx rv sl22, R1.intB rv (Ext.pres eB), RdS.cells rv, BoxAt.cell hb0_0, RdS.len hrw3_4_0 sl36, RdS.idx hrw3_4_0 sl36, RdS.cellB hrw3_4_0 (Ext.pres xrw3_4_0), RdS.cells hrw3_4_0, wrap_id]
  refine CallA.mono (sDim_ok _ X _ _ ⟨_, _, rfl, (RdS.pres hdX (Ext.pres eB)), (RdS.pres hmX (Ext.pres eB))⟩) ?_
  intro v_ h3_9
  rintro ⟨rfl, e3_9⟩
  replace hb0_0 := BoxAt.ext hb0_0 e3_9
  have := Ext.size e3_9
  replace eB := Ext.trans eB e3_9
  replace xrw3_4_0 := Ext.trans xrw3_4_0 e3_9
  try simp (disch := decide) only [outv_some, outv_none, put_puts]
  refine plK_pres (Ext.pres e3_9) ?_
  try simp -implicitDefEqProofs (disch := first | decide | assumption | omega) only [go_sem, RdS.len hdX sl22, RdS.idx hdX sl22, R1.intB hdX (Ext.pres eB), RdS.cells hdX, RdS.len hmX sl23, RdS.idx hmX sl23, RdS.cellB hmX (Ext.pres eB), RdS.cells hmX, RdS.len rv sl22, RdS.idx rv sl22, R1.intB rv (Ext.pres eB), RdS.cells rv, BoxAt.cell hb0_0, RdS.len hrw3_4_0 sl36, RdS.idx hrw3_4_0 sl36, RdS.cellB hrw3_4_0 (Ext.pres xrw3_4_0), RdS.cells hrw3_4_0, wrap_id]
  try simp -implicitDefEqProofs (disch := first | decide | assumption | omega) only [go_sem, RdS.len hdX sl22, RdS.idx hdX sl22, R1.intB hdX (Ext.pres eB), RdS.cells hdX, RdS.len hmX sl23, RdS.idx hmX sl23, RdS.cellB hmX (Ext.pres eB), RdS.cells hmX, RdS.len rv sl22, RdS.idx rv sl22, R1.intB rv (Ext.pres eB), RdS.cells rv, BoxAt.cell hb0_0, RdS.len hrw3_4_0 sl36, RdS.idx hrw3_4_0 sl36, RdS.cellB hrw3_4_0 (Ext.pres xrw3_4_0), RdS.cells hrw3_4_0, wrap_id]
  refine CallA.mono (sApply_ok _ _ _ _ _ _ _ (RdS.pres rv (Ext.pres eB)) (RdS.pres hrw3_4_0 (Ext.pres xrw3_4_0)) (by omega) (by omega) (by omega) hbv hbt) ?_
  intro v3_10 h3_10
  rintro ⟨f3_10, ho3_10, hf3_10, e3_10⟩
  replace hb0_0 := BoxAt.ext hb0_0 e3_10
  have := Ext.size e3_10
  replace eB := Ext.trans eB e3_10
  replace xrw3_4_0 := Ext.trans xrw3_4_0 e3_10
  have hlho3_10 := OS.lt ho3_10
  try simp (disch := decide) only [outv_some, outv_none, put_puts]
  refine plK_pres (Ext.pres e3_10) ?_
  try simp -implicitDefEqProofs (disch := first | decide | assumption | omega) only [go_sem, RdS.len hdX sl22, RdS.idx hdX sl22, R1.intB hdX (Ext.pres eB), RdS.cells hdX, RdS.len hmX sl23, RdS.idx hmX sl23, RdS.cellB hmX (Ext.pres eB), RdS.cells hmX, RdS.len rv sl22, RdS.idx rv sl22, R1.intB rv (Ext.pres eB), RdS.cells rv, RdS.len (OS.rd ho3_10) sl22, RdS.idx (OS.rd ho3_10) sl22, R1.intN (OS.rd ho3_10), RdS.cells (OS.rd ho3_10), BoxAt.cell hb0_0, RdS.len hrw3_4_0 sl36, RdS.idx hrw3_4_0 sl36, RdS.cellB hrw3_4_0 (Ext.pres xrw3_4_0), RdS.cells hrw3_4_0, wrap_id]
  refine hK _ _ ?_
  clear hK K
  refine den_ret ?_
  simp (disch := decide) only [resP_1, puts_same, puts_ne]
  rw [diff_spec hC hn.1 hn.2] at ho3_10
  exact ⟨_, _, rfl, ho3_10, hf3_10.mono (by omega), eB⟩

def chnAt (X Y : Cx) (f : List (List (List Int))) (k i : Nat) : Prop := imgP X Y f 0 (k : Int) ((X.maps.getD k default).getD i default) = diffP Y ((k : Int) + 1) ((f.getD ((k : Int) + 1).toNat default).getD i default)
def IsChn (X Y : Cx) (f : List (List (List Int))) : Prop := ∀ k : Nat, (k : Int) + 1 ≤ (X.dims.length : Int) - 1 → ∀ i, i < (f.getD ((k : Int) + 1).toNat default).length → chnAt X Y f k i
noncomputable def chnP (X Y : Cx) (f : List (List (List Int))) : Bool := pdec (IsChn X Y f)
/-- What a round of the test of chain maps knows. -/
structure ChnR (X Y : Cx) (f : List (List (List Int))) (k i : Nat) : Prop where
 hi : i < (X.maps.getD k default).length
 ml : k < X.maps.length
 row : (((X.maps.getD k default).getD i default).length : Int) = X.dims.getD k 0 ∧ Bnd X.p ((X.maps.getD k default).getD i default)
 img : (((f.getD ((k : Int) + 1).toNat default).getD i default).length : Int) = Y.dims.getD ((k : Int) + 1).toNat 0 ∧ Bnd Y.p ((f.getD ((k : Int) + 1).toNat default).getD i default)
theorem chnR {X Y : Cx} {f : List (List (List Int))} (hX : IsC X) (hY : IsC Y) (hp : X.p = Y.p) (hl : X.dims.length = Y.dims.length) (hF : IsFam X Y f 0) {k i : Nat} (hk : (k : Int) + 1 ≤ (X.dims.length : Int) - 1) (hi : i < (f.getD ((k : Int) + 1).toNat default).length) : ChnR X Y f k i := by
 have hm := hX.ml
 have t := tableP_iff.1 (hX.tb k (by omega))
 have e : (((k : Int) + 1).toNat : Int) = (k : Int) + 1 := by omega
 have hf := hF.at (n := ((k : Int) + 1).toNat) (by have := hF.len; omega)
 have r := hf.2.at hi
 have hi2 : i < (X.maps.getD k default).length := by omega
 refine ⟨hi2, by omega, t.2.at hi2, ?_, hp ▸ r.2⟩
 rw [r.1, Int.add_zero, dimP, if_pos (in3_iff.2 ⟨by omega, by omega⟩), e]

set_option maxRecDepth 100000 in
theorem iChn_ok (vX vY vf : Value) (X : Cx) (Y : Cx) (f : List (List (List Int))) (h : Heap) (rX : RC h vX X) (rY : RC h vY Y) (rf : R3 h vf f) (hX : IsC X) (hY : IsC Y) (hF : IsFam X Y f 0) (hp : X.p = Y.p) (hl : X.dims.length = Y.dims.length) : CallA Try.prog 95 #[vX, vY, vf] h fun v' h' => v' = .bool (chnP X Y f) ∧ Ext h h' := by
 obtain ⟨vdX, vmX, rfl, hdX, hmX⟩ := rX
 have hledX := RdS.le hdX
 have hlemX := RdS.le hmX
 obtain ⟨vdY, vmY, rfl, hdY, hmY⟩ := rY
 have hledY := RdS.le hdY
 have hlemY := RdS.le hmY
 have hlef := RdS.le rf
 have hlX := hX.len
 have hlF := hF.len
 refine callA_intro TTok (args := [_, _, _]) Try.func95 (by kernel_rfl) rfl 48 rfl (by simp) [.tmp 6] rfl ?_
 simp only [idxs, Nat.reduceAdd]
 refine den_seq ?_
 refine den_region TTok ?_
 intro K hK
 simp -implicitDefEqProofs (disch := first | decide | assumption | omega) only [go_sem, RdS.len hdX sl22, RdS.idx hdX sl22, R1.intB hdX (HPres.refl _), RdS.cells hdX, RdS.len hmX sl23, RdS.idx hmX sl23, RdS.cellB hmX (HPres.refl _), RdS.cells hmX, RdS.len hdY sl22, RdS.idx hdY sl22, R1.intB hdY (HPres.refl _), RdS.cells hdY, RdS.len hmY sl23, RdS.idx hmY sl23, RdS.cellB hmY (HPres.refl _), RdS.cells hmY, RdS.len rf sl23, RdS.idx rf sl23, RdS.cellB rf (HPres.refl _), RdS.cells rf, wrap_id, Int.add_sub_cancel]
 refine op_box (cs := #[.int .i64 (X.p), vdX, vmX]) rfl ?_
 intro h0_0 e0_0 hb0_0 z0_0
 have := Ext.size e0_0
 have eB := e0_0
 have hfhb0_0 : Fresh h.size [h.size] := Fresh.one _
 have hlhb0_0 := one_lt (show h.size < h0_0.size by omega)
 try simp -implicitDefEqProofs (disch := first | decide | assumption | omega) only [go_sem, RdS.len hdX sl22, RdS.idx hdX sl22, R1.intB hdX (Ext.pres eB), RdS.cells hdX, RdS.len hmX sl23, RdS.idx hmX sl23, RdS.cellB hmX (Ext.pres eB), RdS.cells hmX, RdS.len hdY sl22, RdS.idx hdY sl22, R1.intB hdY (Ext.pres eB), RdS.cells hdY, RdS.len hmY sl23, RdS.idx hmY sl23, RdS.cellB hmY (Ext.pres eB), RdS.cells hmY, RdS.len rf sl23, RdS.idx rf sl23, RdS.cellB rf (Ext.pres eB), RdS.cells rf, BoxAt.cell hb0_0, wrap_id, Int.add_sub_cancel]
 refine op_box (cs := #[.int .i64 (Y.p), vdY, vmY]) rfl ?_
 intro h0_1 e0_1 hb0_1 z0_1
 replace hb0_0 := BoxAt.ext hb0_0 e0_1
 have := Ext.size e0_1
 replace eB := Ext.trans eB e0_1
 have hfhb0_1 : Fresh h0_0.size [h0_0.size] := Fresh.one _
 have hlhb0_1 := one_lt (show h0_0.size < h0_1.size by omega)
 try simp -implicitDefEqProofs (disch := first | decide | assumption | omega) only [go_sem, RdS.len hdX sl22, RdS.idx hdX sl22, R1.intB hdX (Ext.pres eB), RdS.cells hdX, RdS.len hmX sl23, RdS.idx hmX sl23, RdS.cellB hmX (Ext.pres eB), RdS.cells hmX, RdS.len hdY sl22, RdS.idx hdY sl22, R1.intB hdY (Ext.pres eB), RdS.cells hdY, RdS.len hmY sl23, RdS.idx hmY sl23, RdS.cellB hmY (Ext.pres eB), RdS.cells hmY, RdS.len rf sl23, RdS.idx rf sl23, RdS.cellB rf (Ext.pres eB), RdS.cells rf, BoxAt.cell hb0_0, BoxAt.cell hb0_1, wrap_id, Int.add_sub_cancel]
 refine hK _ _ ?_
 clear hK K
 refine den_seq ?_
 refine den_seq ?_
 refine den_region TTok ?_
 intro K hK
 simp -implicitDefEqProofs (disch := first | decide | assumption | omega) only [go_sem, RdS.len hdX sl22, RdS.idx hdX sl22, R1.intB hdX (Ext.pres eB), RdS.cells hdX, RdS.len hmX sl23, RdS.idx hmX sl23, RdS.cellB hmX (Ext.pres eB), RdS.cells hmX, RdS.len hdY sl22, RdS.idx hdY sl22, R1.intB hdY (Ext.pres eB), RdS.cells hdY, RdS.len hmY sl23, RdS.idx hmY sl23, RdS.cellB hmY (Ext.pres eB), RdS.cells hmY, RdS.len rf sl23, RdS.idx rf sl23, RdS.cellB rf (Ext.pres eB), RdS.cells rf, BoxAt.cell hb0_0, BoxAt.cell hb0_1, wrap_id, Int.add_sub_cancel]
 refine hK _ _ ?_
 clear hK K
 refine den_block ?_
 refine den_sel [7, 2, 3, 4] ?_
 intro env_1
 simp only [go_sem]
 refine den_loopS (σ := Nat) (fun st_ => [(7, .int .i64 ((st_ : Int) + 1))]) (fun st_ H => ((st_ : Int) ≤ (X.dims.length : Int) - 1) ∧ (∀ j : Nat, j < st_ → ∀ i, i < (f.getD ((j : Int) + 1).toNat default).length → chnAt X Y f j i) ∧ (Ext h0_1 H)) (fun st_ => X.dims.length - st_) 0 ?_ ?_
 ·exact ⟨by show ((0 : Nat) : Int) ≤ _; omega, fun j hj => by omega, Ext.refl _⟩
 ·rintro k h4 ee3 ⟨hk, hz, cL2⟩
  replace hb0_0 := BoxAt.ext hb0_0 cL2
  replace hb0_1 := BoxAt.ext hb0_1 cL2
  have := Ext.size cL2
  replace eB := Ext.trans eB cL2
  simp only [List.cons_append, List.nil_append]
  refine den_seq ?_
  refine den_seq ?_
  refine den_region TTok ?_
  intro K hK
  simp -implicitDefEqProofs (disch := first | decide | assumption | omega) only [go_sem, ld30, RdS.len hdX sl22, RdS.idx hdX sl22, R1.intB hdX (Ext.pres eB), RdS.cells hdX, RdS.len hmX sl23, RdS.idx hmX sl23, RdS.cellB hmX (Ext.pres eB), RdS.cells hmX, RdS.len hdY sl22, RdS.idx hdY sl22, R1.intB hdY (Ext.pres eB), RdS.cells hdY, RdS.len hmY sl23, RdS.idx hmY sl23, RdS.cellB hmY (Ext.pres eB), RdS.cells hmY, RdS.len rf sl23, RdS.idx rf sl23, RdS.cellB rf (Ext.pres eB), RdS.cells rf, BoxAt.cell hb0_0, BoxAt.cell hb0_1, wrap_id, Int.add_sub_cancel]
  try simp -implicitDefEqProofs (disch := first | decide | assumption | omega) only [go_sem, RdS.len hdX sl22, RdS.idx hdX sl22, R1.intB hdX (Ext.pres eB), RdS.cells hdX, RdS.len hmX sl23, RdS.idx hmX sl23, RdS.cellB hmX (Ext.pres eB), RdS.cells hmX, RdS.len hdY sl22, RdS.idx hdY sl22, R1.intB hdY (Ext.pres eB), RdS.cells hdY, RdS.len hmY sl23, RdS.idx hmY sl23, RdS.cellB hmY (Ext.pres eB), RdS.cells hmY, RdS.len rf sl23, RdS.idx rf sl23, RdS.cellB rf (Ext.pres eB), RdS.cells rf, BoxAt.cell hb0_0, BoxAt.cell hb0_1, wrap_id, Int.add_sub_cancel]
  refine CallA.mono (top_ok _ X _ ⟨_, _, rfl, (RdS.pres hdX (Ext.pres eB)), (RdS.pres hmX (Ext.pres eB))⟩) ?_
  intro v_ h2_2
  rintro ⟨rfl, e2_2⟩
  replace hb0_0 := BoxAt.ext hb0_0 e2_2
  replace hb0_1 := BoxAt.ext hb0_1 e2_2
  have := Ext.size e2_2
  replace eB := Ext.trans eB e2_2
  replace cL2 := Ext.trans cL2 e2_2
  try simp -implicitDefEqProofs (disch := first | decide | assumption | omega) only [go_sem, RdS.len hdX sl22, RdS.idx hdX sl22, R1.intB hdX (Ext.pres eB), RdS.cells hdX, RdS.len hmX sl23, RdS.idx hmX sl23, RdS.cellB hmX (Ext.pres eB), RdS.cells hmX, RdS.len hdY sl22, RdS.idx hdY sl22, R1.intB hdY (Ext.pres eB), RdS.cells hdY, RdS.len hmY sl23, RdS.idx hmY sl23, RdS.cellB hmY (Ext.pres eB), RdS.cells hmY, RdS.len rf sl23, RdS.idx rf sl23, RdS.cellB rf (Ext.pres eB), RdS.cells rf, BoxAt.cell hb0_0, BoxAt.cell hb0_1, wrap_id, Int.add_sub_cancel]
  refine hK _ _ ?_
  clear hK K
  refine den_cond rfl (fun c0 => ?_) (fun c0 => ?_)
  ·try simp only [decide_eq_true_eq, decide_eq_false_iff_not, beq_iff_eq, beq_eq_false_iff_ne, bne_iff_ne, ne_eq, Bool.not_eq_true', Bool.not_eq_false', Bool.and_eq_true, Bool.or_eq_true, bne_eq_false_iff_eq] at c0
   refine den_skip ?_
   refine den_seq ?_
   refine den_block ?_
   refine den_seq ?_
   refine den_region TTok ?_
   intro K hK
   have hr5 := RdS.rowN rf (((k : Int) + (1 : Int))).toNat (by omega)
   have hlhr5 := RdS.le hr5
   simp -implicitDefEqProofs (disch := first | decide | assumption | omega) only [go_sem, ld36, RdS.len hdX sl22, RdS.idx hdX sl22, R1.intB hdX (Ext.pres eB), RdS.cells hdX, RdS.len hmX sl23, RdS.idx hmX sl23, RdS.cellB hmX (Ext.pres eB), RdS.cells hmX, RdS.len hdY sl22, RdS.idx hdY sl22, R1.intB hdY (Ext.pres eB), RdS.cells hdY, RdS.len hmY sl23, RdS.idx hmY sl23, RdS.cellB hmY (Ext.pres eB), RdS.cells hmY, RdS.len rf sl23, RdS.idx rf sl23, RdS.cellB rf (Ext.pres eB), RdS.cells rf, RdS.len hr5 sl36, RdS.idx hr5 sl36, RdS.cellB hr5 (Ext.pres eB), RdS.cells hr5, BoxAt.cell hb0_0, BoxAt.cell hb0_1, wrap_id, Int.add_sub_cancel]
   refine hK _ _ ?_
   clear hK K
   refine den_block ?_
   refine den_sel [21, 2, 3, 4, 7, 19, 20] ?_
   intro env_6
   simp only [go_sem]
   refine den_loopS (σ := Nat) (fun st_ => [(21, .int .i64 (st_ : Int))]) (fun st_ H => (st_ ≤ (f.getD ((k : Int) + 1).toNat default).length) ∧ (∀ j, j < st_ → chnAt X Y f k j) ∧ (Ext h2_2 H)) (fun st_ => (f.getD ((k : Int) + 1).toNat default).length - st_) 0 ?_ ?_
   ·exact ⟨by simp, fun j hj => by omega, Ext.refl _⟩
   ·rintro i h9 ee8 ⟨hi, hy, cL7⟩
    replace hb0_0 := BoxAt.ext hb0_0 cL7
    replace hb0_1 := BoxAt.ext hb0_1 cL7
    have := Ext.size cL7
    replace eB := Ext.trans eB cL7
    replace cL2 := Ext.trans cL2 cL7
    simp only [List.cons_append, List.nil_append]
    refine den_seq ?_
    refine den_region TTok ?_
    intro K hK
    simp -implicitDefEqProofs (disch := first | decide | assumption | omega) only [go_sem, RdS.len hdX sl22, RdS.idx hdX sl22, R1.intB hdX (Ext.pres eB), RdS.cells hdX, RdS.len hmX sl23, RdS.idx hmX sl23, RdS.cellB hmX (Ext.pres eB), RdS.cells hmX, RdS.len hdY sl22, RdS.idx hdY sl22, R1.intB hdY (Ext.pres eB), RdS.cells hdY, RdS.len hmY sl23, RdS.idx hmY sl23, RdS.cellB hmY (Ext.pres eB), RdS.cells hmY, RdS.len rf sl23, RdS.idx rf sl23, RdS.cellB rf (Ext.pres eB), RdS.cells rf, RdS.len hr5 sl36, RdS.idx hr5 sl36, RdS.cellB hr5 (Ext.pres eB), RdS.cells hr5, BoxAt.cell hb0_0, BoxAt.cell hb0_1, wrap_id, Int.add_sub_cancel]
    refine hK _ _ ?_
    clear hK K
    refine den_seq ?_
    refine den_cond rfl (fun c1 => ?_) (fun c1 => ?_)
    ·try simp only [decide_eq_true_eq, decide_eq_false_iff_not, beq_iff_eq, beq_eq_false_iff_ne, bne_iff_ne, ne_eq, Bool.not_eq_true', Bool.not_eq_false', Bool.and_eq_true, Bool.or_eq_true, bne_eq_false_iff_eq] at c1
     refine den_skip ?_
     refine den_seq ?_
     refine den_block ?_
     refine den_seq ?_
     refine den_region TTok ?_
     intro K hK
     have hr10 := RdS.rowN hr5 i (by omega)
     have hlhr10 := RdS.le hr10
     simp -implicitDefEqProofs (disch := first | decide | assumption | omega) only [go_sem, ld22, RdS.len hdX sl22, RdS.idx hdX sl22, R1.intB hdX (Ext.pres eB), RdS.cells hdX, RdS.len hmX sl23, RdS.idx hmX sl23, RdS.cellB hmX (Ext.pres eB), RdS.cells hmX, RdS.len hdY sl22, RdS.idx hdY sl22, R1.intB hdY (Ext.pres eB), RdS.cells hdY, RdS.len hmY sl23, RdS.idx hmY sl23, RdS.cellB hmY (Ext.pres eB), RdS.cells hmY, RdS.len rf sl23, RdS.idx rf sl23, RdS.cellB rf (Ext.pres eB), RdS.cells rf, RdS.len hr5 sl36, RdS.idx hr5 sl36, RdS.cellB hr5 (Ext.pres eB), RdS.cells hr5, RdS.len hr10 sl22, RdS.idx hr10 sl22, R1.intB hr10 (Ext.pres eB), RdS.cells hr10, BoxAt.cell hb0_0, BoxAt.cell hb0_1, wrap_id, Int.add_sub_cancel]
     refine hK _ _ ?_
     clear hK K
     refine den_seq ?_
     have hR := chnR hX hY hp hl hF (k := k) (i := i) (by omega) (by omega)
     have hRi := hR.hi
     have hRm := hR.ml
     have hRl := hR.row.1
     have hRy := hR.img.1
     have hvv : 0 ≤ (k : Int) ∧ (k : Int) ≤ (X.dims.length : Int) - 1 → (((X.maps.getD k default).getD i default).length : Int) = X.dims.getD (k : Int).toNat 0 ∧ Bnd X.p ((X.maps.getD k default).getD i default) := fun _ => hR.row
     have hdb := hR.img.2
     have hdl : 0 < (k : Int) + 1 → (k : Int) + 1 ≤ (Y.dims.length : Int) - 1 → (((f.getD ((k : Int) + 1).toNat default).getD i default).length : Int) = Y.dims.getD ((k : Int) + 1).toNat 0 := fun _ _ => hR.img.1
     have happ : ∀ v, appP X Y f 0 (k : Int) v = imgP X Y f 0 (k : Int) v := fun v => by rw [appP, if_pos (in3_iff.2 ⟨by omega, by omega⟩)]
     refine den_draw TTok mixed [] [(0, true), (1, true), (2, true), (3, true), (4, true), (5, true), (6, true), (7, true), (8, true), (9, true), (10, true), (11, true), (12, true), (13, true), (15, true), (16, true), (17, true), (14, false), (18, false), (19, false), (20, true)] (by kernel_rfl) ?_
     intro K hK
     have hr11 := RdS.rowN hmX k (by omega)
     have hlhr11 := RdS.le hr11
     have hr12 := RdS.rowN hr11 i (by omega)
     have hlhr12 := RdS.le hr12
     simp -implicitDefEqProofs (disch := first | decide | assumption | omega) only [go_sem, fa30_2, ld23, ld36, ld22, ld30, RdS.len hdX sl22, RdS.idx hdX sl22, R1.intB hdX (Ext.pres eB), RdS.cells hdX, RdS.len hmX sl23, RdS.idx hmX sl23, RdS.cellB hmX (Ext.pres eB), RdS.cells hmX, RdS.len hdY sl22, RdS.idx hdY sl22, R1.intB hdY (Ext.pres eB), RdS.cells hdY, RdS.len hmY sl23, RdS.idx hmY sl23, RdS.cellB hmY (Ext.pres eB), RdS.cells hmY, RdS.len rf sl23, RdS.idx rf sl23, RdS.cellB rf (Ext.pres eB), RdS.cells rf, RdS.len hr5 sl36, RdS.idx hr5 sl36, RdS.cellB hr5 (Ext.pres eB), RdS.cells hr5, RdS.len hr10 sl22, RdS.idx hr10 sl22, R1.intB hr10 (Ext.pres eB), RdS.cells hr10, RdS.len hr11 sl36, RdS.idx hr11 sl36, RdS.cellB hr11 (Ext.pres eB), RdS.cells hr11, RdS.len hr12 sl22, RdS.idx hr12 sl22, R1.intB hr12 (Ext.pres eB), RdS.cells hr12, BoxAt.cell hb0_0, BoxAt.cell hb0_1, wrap_id, Int.add_sub_cancel]
     try simp -implicitDefEqProofs (disch := first | decide | assumption | omega) only [go_sem, RdS.len hdX sl22, RdS.idx hdX sl22, R1.intB hdX (Ext.pres eB), RdS.cells hdX, RdS.len hmX sl23, RdS.idx hmX sl23, RdS.cellB hmX (Ext.pres eB), RdS.cells hmX, RdS.len hdY sl22, RdS.idx hdY sl22, R1.intB hdY (Ext.pres eB), RdS.cells hdY, RdS.len hmY sl23, RdS.idx hmY sl23, RdS.cellB hmY (Ext.pres eB), RdS.cells hmY, RdS.len rf sl23, RdS.idx rf sl23, RdS.cellB rf (Ext.pres eB), RdS.cells rf, RdS.len hr5 sl36, RdS.idx hr5 sl36, RdS.cellB hr5 (Ext.pres eB), RdS.cells hr5, RdS.len hr10 sl22, RdS.idx hr10 sl22, R1.intB hr10 (Ext.pres eB), RdS.cells hr10, RdS.len hr11 sl36, RdS.idx hr11 sl36, RdS.cellB hr11 (Ext.pres eB), RdS.cells hr11, RdS.len hr12 sl22, RdS.idx hr12 sl22, R1.intB hr12 (Ext.pres eB), RdS.cells hr12, BoxAt.cell hb0_0, BoxAt.cell hb0_1, wrap_id, Int.add_sub_cancel]
     refine CallA.mono (iApp_ok _ _ _ _ X Y f (0 : Int) (k : Int) (((X.maps).getD k default).getD i default) _ ⟨_, _, rfl, (RdS.pres hdX (Ext.pres eB)), (RdS.pres hmX (Ext.pres eB))⟩ ⟨_, _, rfl, (RdS.pres hdY (Ext.pres eB)), (RdS.pres hmY (Ext.pres eB))⟩ (RdS.pres rf (Ext.pres eB)) (RdS.pres hr12 (Ext.pres eB)) hX hY hF (by omega) (by omega) hvv) ?_
     intro vw7_14_0 h7_14
     rintro ⟨zvw7_14_0, fw7_14_0, rfl, how7_14_0, hfw7_14_0, e7_14⟩
     replace hb0_0 := BoxAt.ext hb0_0 e7_14
     replace hb0_1 := BoxAt.ext hb0_1 e7_14
     have := Ext.size e7_14
     replace eB := Ext.trans eB e7_14
     replace cL2 := Ext.trans cL2 e7_14
     replace cL7 := Ext.trans cL7 e7_14
     have hlhow7_14_0 := OS.lt how7_14_0
     try simp (disch := decide) only [outv_some, outv_none, put_puts]
     refine plK_pres (Ext.pres e7_14) ?_
     try simp -implicitDefEqProofs (disch := first | decide | assumption | omega) only [go_sem, RdS.len hdX sl22, RdS.idx hdX sl22, R1.intB hdX (Ext.pres eB), RdS.cells hdX, RdS.len hmX sl23, RdS.idx hmX sl23, RdS.cellB hmX (Ext.pres eB), RdS.cells hmX, RdS.len hdY sl22, RdS.idx hdY sl22, R1.intB hdY (Ext.pres eB), RdS.cells hdY, RdS.len hmY sl23, RdS.idx hmY sl23, RdS.cellB hmY (Ext.pres eB), RdS.cells hmY, RdS.len rf sl23, RdS.idx rf sl23, RdS.cellB rf (Ext.pres eB), RdS.cells rf, RdS.len hr5 sl36, RdS.idx hr5 sl36, RdS.cellB hr5 (Ext.pres eB), RdS.cells hr5, RdS.len hr10 sl22, RdS.idx hr10 sl22, R1.intB hr10 (Ext.pres eB), RdS.cells hr10, RdS.len hr11 sl36, RdS.idx hr11 sl36, RdS.cellB hr11 (Ext.pres eB), RdS.cells hr11, RdS.len hr12 sl22, RdS.idx hr12 sl22, R1.intB hr12 (Ext.pres eB), RdS.cells hr12, RdS.len (OS.rd how7_14_0) sl22, RdS.idx (OS.rd how7_14_0) sl22, R1.intN (OS.rd how7_14_0), RdS.cells (OS.rd how7_14_0), BoxAt.cell hb0_0, BoxAt.cell hb0_1, wrap_id, Int.add_sub_cancel]
     try simp -implicitDefEqProofs (disch := first | decide | assumption | omega) only [go_sem, RdS.len hdX sl22, RdS.idx hdX sl22, R1.intB hdX (Ext.pres eB), RdS.cells hdX, RdS.len hmX sl23, RdS.idx hmX sl23, RdS.cellB hmX (Ext.pres eB), RdS.cells hmX, RdS.len hdY sl22, RdS.idx hdY sl22, R1.intB hdY (Ext.pres eB), RdS.cells hdY, RdS.len hmY sl23, RdS.idx hmY sl23, RdS.cellB hmY (Ext.pres eB), RdS.cells hmY, RdS.len rf sl23, RdS.idx rf sl23, RdS.cellB rf (Ext.pres eB), RdS.cells rf, RdS.len hr5 sl36, RdS.idx hr5 sl36, RdS.cellB hr5 (Ext.pres eB), RdS.cells hr5, RdS.len hr10 sl22, RdS.idx hr10 sl22, R1.intB hr10 (Ext.pres eB), RdS.cells hr10, RdS.len hr11 sl36, RdS.idx hr11 sl36, RdS.cellB hr11 (Ext.pres eB), RdS.cells hr11, RdS.len hr12 sl22, RdS.idx hr12 sl22, R1.intB hr12 (Ext.pres eB), RdS.cells hr12, RdS.len (OS.rd how7_14_0) sl22, RdS.idx (OS.rd how7_14_0) sl22, R1.intN (OS.rd how7_14_0), RdS.cells (OS.rd how7_14_0), BoxAt.cell hb0_0, BoxAt.cell hb0_1, wrap_id, Int.add_sub_cancel]
     refine CallA.mono (diff_ok _ Y _ _ _ _ ⟨_, _, rfl, (RdS.pres hdY (Ext.pres eB)), (RdS.pres hmY (Ext.pres eB))⟩ (RdS.pres hr10 (Ext.pres eB)) hY.pre hdb hdl) ?_
     intro v7_18 h7_18
     rintro ⟨f7_18, ho7_18, hf7_18, e7_18⟩
     replace how7_14_0 := OS.ext how7_14_0 e7_18
     replace hb0_0 := BoxAt.ext hb0_0 e7_18
     replace hb0_1 := BoxAt.ext hb0_1 e7_18
     have := Ext.size e7_18
     replace eB := Ext.trans eB e7_18
     replace cL2 := Ext.trans cL2 e7_18
     replace cL7 := Ext.trans cL7 e7_18
     have hlho7_18 := OS.lt ho7_18
     try simp (disch := decide) only [outv_some, outv_none, put_puts]
     refine plK_pres (Ext.pres e7_18) ?_
     try simp -implicitDefEqProofs (disch := first | decide | assumption | omega) only [go_sem, RdS.len hdX sl22, RdS.idx hdX sl22, R1.intB hdX (Ext.pres eB), RdS.cells hdX, RdS.len hmX sl23, RdS.idx hmX sl23, RdS.cellB hmX (Ext.pres eB), RdS.cells hmX, RdS.len hdY sl22, RdS.idx hdY sl22, R1.intB hdY (Ext.pres eB), RdS.cells hdY, RdS.len hmY sl23, RdS.idx hmY sl23, RdS.cellB hmY (Ext.pres eB), RdS.cells hmY, RdS.len rf sl23, RdS.idx rf sl23, RdS.cellB rf (Ext.pres eB), RdS.cells rf, RdS.len hr5 sl36, RdS.idx hr5 sl36, RdS.cellB hr5 (Ext.pres eB), RdS.cells hr5, RdS.len hr10 sl22, RdS.idx hr10 sl22, R1.intB hr10 (Ext.pres eB), RdS.cells hr10, RdS.len hr11 sl36, RdS.idx hr11 sl36, RdS.cellB hr11 (Ext.pres eB), RdS.cells hr11, RdS.len hr12 sl22, RdS.idx hr12 sl22, R1.intB hr12 (Ext.pres eB), RdS.cells hr12, RdS.len (OS.rd how7_14_0) sl22, RdS.idx (OS.rd how7_14_0) sl22, R1.intN (OS.rd how7_14_0), RdS.cells (OS.rd how7_14_0), RdS.len (OS.rd ho7_18) sl22, RdS.idx (OS.rd ho7_18) sl22, R1.intN (OS.rd ho7_18), RdS.cells (OS.rd ho7_18), BoxAt.cell hb0_0, BoxAt.cell hb0_1, wrap_id, Int.add_sub_cancel]
     try simp -implicitDefEqProofs (disch := first | decide | assumption | omega) only [go_sem, RdS.len hdX sl22, RdS.idx hdX sl22, R1.intB hdX (Ext.pres eB), RdS.cells hdX, RdS.len hmX sl23, RdS.idx hmX sl23, RdS.cellB hmX (Ext.pres eB), RdS.cells hmX, RdS.len hdY sl22, RdS.idx hdY sl22, R1.intB hdY (Ext.pres eB), RdS.cells hdY, RdS.len hmY sl23, RdS.idx hmY sl23, RdS.cellB hmY (Ext.pres eB), RdS.cells hmY, RdS.len rf sl23, RdS.idx rf sl23, RdS.cellB rf (Ext.pres eB), RdS.cells rf, RdS.len hr5 sl36, RdS.idx hr5 sl36, RdS.cellB hr5 (Ext.pres eB), RdS.cells hr5, RdS.len hr10 sl22, RdS.idx hr10 sl22, R1.intB hr10 (Ext.pres eB), RdS.cells hr10, RdS.len hr11 sl36, RdS.idx hr11 sl36, RdS.cellB hr11 (Ext.pres eB), RdS.cells hr11, RdS.len hr12 sl22, RdS.idx hr12 sl22, R1.intB hr12 (Ext.pres eB), RdS.cells hr12, RdS.len (OS.rd how7_14_0) sl22, RdS.idx (OS.rd how7_14_0) sl22, R1.intN (OS.rd how7_14_0), RdS.cells (OS.rd how7_14_0), RdS.len (OS.rd ho7_18) sl22, RdS.idx (OS.rd ho7_18) sl22, R1.intN (OS.rd ho7_18), RdS.cells (OS.rd ho7_18), BoxAt.cell hb0_0, BoxAt.cell hb0_1, wrap_id, Int.add_sub_cancel]
     refine CallA.mono (equal1_ok _ _ (appP X Y f (0 : Int) (k : Int) (((X.maps).getD k default).getD i default)) (diffP Y ((k : Int) + (1 : Int)) (((f).getD (((k : Int) + (1 : Int))).toNat default).getD i default)) _ (OS.rd how7_14_0) (OS.rd ho7_18) ) ?_
     intro v_ h7_19
     rintro ⟨rfl, e7_19⟩
     replace how7_14_0 := OS.ext how7_14_0 e7_19
     replace ho7_18 := OS.ext ho7_18 e7_19
     replace hb0_0 := BoxAt.ext hb0_0 e7_19
     replace hb0_1 := BoxAt.ext hb0_1 e7_19
     have := Ext.size e7_19
     replace eB := Ext.trans eB e7_19
     replace cL2 := Ext.trans cL2 e7_19
     replace cL7 := Ext.trans cL7 e7_19
     try simp (disch := decide) only [outv_some, outv_none, put_puts]
     refine plK_pres (Ext.pres e7_19) ?_
     try simp -implicitDefEqProofs (disch := first | decide | assumption | omega) only [go_sem, RdS.len hdX sl22, RdS.idx hdX sl22, R1.intB hdX (Ext.pres eB), RdS.cells hdX, RdS.len hmX sl23, RdS.idx hmX sl23, RdS.cellB hmX (Ext.pres eB), RdS.cells hmX, RdS.len hdY sl22, RdS.idx hdY sl22, R1.intB hdY (Ext.pres eB), RdS.cells hdY, RdS.len hmY sl23, RdS.idx hmY sl23, RdS.cellB hmY (Ext.pres eB), RdS.cells hmY, RdS.len rf sl23, RdS.idx rf sl23, RdS.cellB rf (Ext.pres eB), RdS.cells rf, RdS.len hr5 sl36, RdS.idx hr5 sl36, RdS.cellB hr5 (Ext.pres eB), RdS.cells hr5, RdS.len hr10 sl22, RdS.idx hr10 sl22, R1.intB hr10 (Ext.pres eB), RdS.cells hr10, RdS.len hr11 sl36, RdS.idx hr11 sl36, RdS.cellB hr11 (Ext.pres eB), RdS.cells hr11, RdS.len hr12 sl22, RdS.idx hr12 sl22, R1.intB hr12 (Ext.pres eB), RdS.cells hr12, RdS.len (OS.rd how7_14_0) sl22, RdS.idx (OS.rd how7_14_0) sl22, R1.intN (OS.rd how7_14_0), RdS.cells (OS.rd how7_14_0), RdS.len (OS.rd ho7_18) sl22, RdS.idx (OS.rd ho7_18) sl22, R1.intN (OS.rd ho7_18), RdS.cells (OS.rd ho7_18), BoxAt.cell hb0_0, BoxAt.cell hb0_1, wrap_id, Int.add_sub_cancel]
     refine hK _ _ ?_
     clear hK K
     refine den_cond rfl (fun c2 => ?_) (fun c2 => ?_)
     ·try simp only [decide_eq_true_eq, decide_eq_false_iff_not, beq_iff_eq, beq_eq_false_iff_ne, bne_iff_ne, ne_eq, Bool.not_eq_true', Bool.not_eq_false', Bool.and_eq_true, Bool.or_eq_true, bne_eq_false_iff_eq] at c2
      refine den_seq ?_
      refine den_region TTok ?_
      intro K hK
      simp -implicitDefEqProofs (disch := first | decide | assumption | omega) only [go_sem, RdS.len hdX sl22, RdS.idx hdX sl22, R1.intB hdX (Ext.pres eB), RdS.cells hdX, RdS.len hmX sl23, RdS.idx hmX sl23, RdS.cellB hmX (Ext.pres eB), RdS.cells hmX, RdS.len hdY sl22, RdS.idx hdY sl22, R1.intB hdY (Ext.pres eB), RdS.cells hdY, RdS.len hmY sl23, RdS.idx hmY sl23, RdS.cellB hmY (Ext.pres eB), RdS.cells hmY, RdS.len rf sl23, RdS.idx rf sl23, RdS.cellB rf (Ext.pres eB), RdS.cells rf, RdS.len hr5 sl36, RdS.idx hr5 sl36, RdS.cellB hr5 (Ext.pres eB), RdS.cells hr5, RdS.len hr10 sl22, RdS.idx hr10 sl22, R1.intB hr10 (Ext.pres eB), RdS.cells hr10, RdS.len hr11 sl36, RdS.idx hr11 sl36, RdS.cellB hr11 (Ext.pres eB), RdS.cells hr11, RdS.len hr12 sl22, RdS.idx hr12 sl22, R1.intB hr12 (Ext.pres eB), RdS.cells hr12, wrap_id, Int.add_sub_cancel]
      refine hK _ _ ?_
      clear hK K
      refine den_ret ?_
      simp (disch := decide) only [resP_1, puts_same, puts_ne]
      exact ⟨vbool (pdec_no fun hC => by have h := hC k (by omega) i (by omega); rw [happ] at c2; exact c2 h), eB⟩
     ·try simp only [decide_eq_true_eq, decide_eq_false_iff_not, beq_iff_eq, beq_eq_false_iff_ne, bne_iff_ne, ne_eq, Bool.not_eq_true', Bool.not_eq_false', Bool.and_eq_true, Bool.or_eq_true, bne_eq_false_iff_eq] at c2
      refine den_skip ?_
      refine den_blk ?_
      refine den_region TTok ?_
      intro K hK
      simp -implicitDefEqProofs (disch := first | decide | assumption | omega) only [go_sem, RdS.len hdX sl22, RdS.idx hdX sl22, R1.intB hdX (Ext.pres eB), RdS.cells hdX, RdS.len hmX sl23, RdS.idx hmX sl23, RdS.cellB hmX (Ext.pres eB), RdS.cells hmX, RdS.len hdY sl22, RdS.idx hdY sl22, R1.intB hdY (Ext.pres eB), RdS.cells hdY, RdS.len hmY sl23, RdS.idx hmY sl23, RdS.cellB hmY (Ext.pres eB), RdS.cells hmY, RdS.len rf sl23, RdS.idx rf sl23, RdS.cellB rf (Ext.pres eB), RdS.cells rf, RdS.len hr5 sl36, RdS.idx hr5 sl36, RdS.cellB hr5 (Ext.pres eB), RdS.cells hr5, RdS.len hr10 sl22, RdS.idx hr10 sl22, R1.intB hr10 (Ext.pres eB), RdS.cells hr10, RdS.len hr11 sl36, RdS.idx hr11 sl36, RdS.cellB hr11 (Ext.pres eB), RdS.cells hr11, RdS.len hr12 sl22, RdS.idx hr12 sl22, R1.intB hr12 (Ext.pres eB), RdS.cells hr12, BoxAt.cell hb0_0, BoxAt.cell hb0_1, wrap_id, Int.add_sub_cancel]
      refine hK _ _ ?_
      clear hK K
      refine den_stop ?_
      exact ⟨i + 1, by simp [HasL, puts_at], ⟨by omega, fun j hj => (Nat.lt_succ_iff_lt_or_eq.1 hj).elim (hy j) (fun e => by subst e; rw [happ] at c2; exact c2), cL7⟩, by first | omega | (dsimp only; omega)⟩
    ·try simp only [decide_eq_true_eq, decide_eq_false_iff_not, beq_iff_eq, beq_eq_false_iff_ne, bne_iff_ne, ne_eq, Bool.not_eq_true', Bool.not_eq_false', Bool.and_eq_true, Bool.or_eq_true, bne_eq_false_iff_eq] at c1
     refine den_exit ?_
     refine denX_code ?_
     refine denX_stop ?_
     refine denX_hit ?_
     refine den_blk ?_
     refine den_region TTok ?_
     intro K hK
     simp -implicitDefEqProofs (disch := first | decide | assumption | omega) only [go_sem, RdS.len hdX sl22, RdS.idx hdX sl22, R1.intB hdX (Ext.pres eB), RdS.cells hdX, RdS.len hmX sl23, RdS.idx hmX sl23, RdS.cellB hmX (Ext.pres eB), RdS.cells hmX, RdS.len hdY sl22, RdS.idx hdY sl22, R1.intB hdY (Ext.pres eB), RdS.cells hdY, RdS.len hmY sl23, RdS.idx hmY sl23, RdS.cellB hmY (Ext.pres eB), RdS.cells hmY, RdS.len rf sl23, RdS.idx rf sl23, RdS.cellB rf (Ext.pres eB), RdS.cells rf, RdS.len hr5 sl36, RdS.idx hr5 sl36, RdS.cellB hr5 (Ext.pres eB), RdS.cells hr5, BoxAt.cell hb0_0, BoxAt.cell hb0_1, wrap_id, Int.add_sub_cancel]
     refine hK _ _ ?_
     clear hK K
     refine den_stop ?_
     exact ⟨k + 1, by simp [HasL, puts_at], ⟨by omega, fun j hj => (Nat.lt_succ_iff_lt_or_eq.1 hj).elim (hz j) (fun e => by subst e; exact fun q hq => hy q (by omega)), cL2⟩, by first | omega | (dsimp only; omega)⟩
  ·try simp only [decide_eq_true_eq, decide_eq_false_iff_not, beq_iff_eq, beq_eq_false_iff_ne, bne_iff_ne, ne_eq, Bool.not_eq_true', Bool.not_eq_false', Bool.and_eq_true, Bool.or_eq_true, bne_eq_false_iff_eq] at c0
   refine den_exit ?_
   refine denX_code ?_
   refine denX_stop ?_
   refine denX_hit ?_
   refine den_seq ?_
   refine den_region TTok ?_
   intro K hK
   simp -implicitDefEqProofs (disch := first | decide | assumption | omega) only [go_sem, RdS.len hdX sl22, RdS.idx hdX sl22, R1.intB hdX (Ext.pres eB), RdS.cells hdX, RdS.len hmX sl23, RdS.idx hmX sl23, RdS.cellB hmX (Ext.pres eB), RdS.cells hmX, RdS.len hdY sl22, RdS.idx hdY sl22, R1.intB hdY (Ext.pres eB), RdS.cells hdY, RdS.len hmY sl23, RdS.idx hmY sl23, RdS.cellB hmY (Ext.pres eB), RdS.cells hmY, RdS.len rf sl23, RdS.idx rf sl23, RdS.cellB rf (Ext.pres eB), RdS.cells rf, wrap_id, Int.add_sub_cancel]
   refine hK _ _ ?_
   clear hK K
   refine den_ret ?_
   simp (disch := decide) only [resP_1, puts_same, puts_ne]
   exact ⟨vbool (pdec_yes fun j hj => hz j (by omega)), eB⟩

set_option maxRecDepth 100000 in
theorem sChn_ok (vX vY vf : Value) (X : Cx) (Y : Cx) (f : List (List (List Int))) (h : Heap) (rX : RC h vX X) (rY : RC h vY Y) (rf : R3 h vf f) (hX : IsC X) (hY : IsC Y) (hF : IsFam X Y f 0) (hp : X.p = Y.p) (hl : X.dims.length = Y.dims.length) : CallA Try.prog 97 #[vX, vY, vf] h fun v' h' => v' = .bool (chnP X Y f) ∧ Ext h h' := by
 obtain ⟨vdX, vmX, rfl, hdX, hmX⟩ := rX
 have hledX := RdS.le hdX
 have hlemX := RdS.le hmX
 obtain ⟨vdY, vmY, rfl, hdY, hmY⟩ := rY
 have hledY := RdS.le hdY
 have hlemY := RdS.le hmY
 have hlef := RdS.le rf
 have hlX := hX.len
 have hlF := hF.len
 have hCX := hX
 have hCY := hY
 refine callA_intro TTok (args := [_, _, _]) Try.func97 (by kernel_rfl) rfl 55 rfl (by simp) [.tmp 6] rfl ?_
 simp only [idxs, Nat.reduceAdd]
 refine den_seq ?_
 refine den_region TTok ?_
 intro K hK
 simp -implicitDefEqProofs (disch := first | decide | assumption | omega) only [go_sem, RdS.len hdX sl22, RdS.idx hdX sl22, R1.intB hdX (HPres.refl _), RdS.cells hdX, RdS.len hmX sl23, RdS.idx hmX sl23, RdS.cellB hmX (HPres.refl _), RdS.cells hmX, RdS.len hdY sl22, RdS.idx hdY sl22, R1.intB hdY (HPres.refl _), RdS.cells hdY, RdS.len hmY sl23, RdS.idx hmY sl23, RdS.cellB hmY (HPres.refl _), RdS.cells hmY, RdS.len rf sl23, RdS.idx rf sl23, RdS.cellB rf (HPres.refl _), RdS.cells rf, wrap_id, Int.add_sub_cancel]
 refine op_box (cs := #[.int .i64 (X.p), vdX, vmX]) rfl ?_
 intro h0_0 e0_0 hb0_0 z0_0
 have := Ext.size e0_0
 have eB := e0_0
 have hfhb0_0 : Fresh h.size [h.size] := Fresh.one _
 have hlhb0_0 := one_lt (show h.size < h0_0.size by omega)
 try simp -implicitDefEqProofs (disch := first | decide | assumption | omega) only [go_sem, RdS.len hdX sl22, RdS.idx hdX sl22, R1.intB hdX (Ext.pres eB), RdS.cells hdX, RdS.len hmX sl23, RdS.idx hmX sl23, RdS.cellB hmX (Ext.pres eB), RdS.cells hmX, RdS.len hdY sl22, RdS.idx hdY sl22, R1.intB hdY (Ext.pres eB), RdS.cells hdY, RdS.len hmY sl23, RdS.idx hmY sl23, RdS.cellB hmY (Ext.pres eB), RdS.cells hmY, RdS.len rf sl23, RdS.idx rf sl23, RdS.cellB rf (Ext.pres eB), RdS.cells rf, BoxAt.cell hb0_0, wrap_id, Int.add_sub_cancel]
 refine op_box (cs := #[.int .i64 (Y.p), vdY, vmY]) rfl ?_
 intro h0_1 e0_1 hb0_1 z0_1
 replace hb0_0 := BoxAt.ext hb0_0 e0_1
 have := Ext.size e0_1
 replace eB := Ext.trans eB e0_1
 have hfhb0_1 : Fresh h0_0.size [h0_0.size] := Fresh.one _
 have hlhb0_1 := one_lt (show h0_0.size < h0_1.size by omega)
 try simp -implicitDefEqProofs (disch := first | decide | assumption | omega) only [go_sem, RdS.len hdX sl22, RdS.idx hdX sl22, R1.intB hdX (Ext.pres eB), RdS.cells hdX, RdS.len hmX sl23, RdS.idx hmX sl23, RdS.cellB hmX (Ext.pres eB), RdS.cells hmX, RdS.len hdY sl22, RdS.idx hdY sl22, R1.intB hdY (Ext.pres eB), RdS.cells hdY, RdS.len hmY sl23, RdS.idx hmY sl23, RdS.cellB hmY (Ext.pres eB), RdS.cells hmY, RdS.len rf sl23, RdS.idx rf sl23, RdS.cellB rf (Ext.pres eB), RdS.cells rf, BoxAt.cell hb0_0, BoxAt.cell hb0_1, wrap_id, Int.add_sub_cancel]
 refine hK _ _ ?_
 clear hK K
 refine den_seq ?_
 refine den_seq ?_
 refine den_region TTok ?_
 intro K hK
 simp -implicitDefEqProofs (disch := first | decide | assumption | omega) only [go_sem, RdS.len hdX sl22, RdS.idx hdX sl22, R1.intB hdX (Ext.pres eB), RdS.cells hdX, RdS.len hmX sl23, RdS.idx hmX sl23, RdS.cellB hmX (Ext.pres eB), RdS.cells hmX, RdS.len hdY sl22, RdS.idx hdY sl22, R1.intB hdY (Ext.pres eB), RdS.cells hdY, RdS.len hmY sl23, RdS.idx hmY sl23, RdS.cellB hmY (Ext.pres eB), RdS.cells hmY, RdS.len rf sl23, RdS.idx rf sl23, RdS.cellB rf (Ext.pres eB), RdS.cells rf, BoxAt.cell hb0_0, BoxAt.cell hb0_1, wrap_id, Int.add_sub_cancel]
 refine hK _ _ ?_
 clear hK K
 refine den_block ?_
 refine den_sel [7, 2, 3, 4] ?_
 intro env_1
 simp only [go_sem]
 refine den_loopS (σ := Nat) (fun st_ => [(7, .int .i64 ((st_ : Int) + 1))]) (fun st_ H => ((st_ : Int) ≤ (X.dims.length : Int) - 1) ∧ (∀ j : Nat, j < st_ → ∀ i, i < (f.getD ((j : Int) + 1).toNat default).length → chnAt X Y f j i) ∧ (Ext h0_1 H)) (fun st_ => X.dims.length - st_) 0 ?_ ?_
 ·exact ⟨by show ((0 : Nat) : Int) ≤ _; omega, fun j hj => by omega, Ext.refl _⟩
 ·rintro k h4 ee3 ⟨hk, hz, cL2⟩
  replace hb0_0 := BoxAt.ext hb0_0 cL2
  replace hb0_1 := BoxAt.ext hb0_1 cL2
  have := Ext.size cL2
  replace eB := Ext.trans eB cL2
  simp only [List.cons_append, List.nil_append]
  refine den_seq ?_
  refine den_seq ?_
  refine den_region TTok ?_
  intro K hK
  simp -implicitDefEqProofs (disch := first | decide | assumption | omega) only [go_sem, fa30_1, ld22, RdS.len hdX sl22, RdS.idx hdX sl22, R1.intB hdX (Ext.pres eB), RdS.cells hdX, RdS.len hmX sl23, RdS.idx hmX sl23, RdS.cellB hmX (Ext.pres eB), RdS.cells hmX, RdS.len hdY sl22, RdS.idx hdY sl22, R1.intB hdY (Ext.pres eB), RdS.cells hdY, RdS.len hmY sl23, RdS.idx hmY sl23, RdS.cellB hmY (Ext.pres eB), RdS.cells hmY, RdS.len rf sl23, RdS.idx rf sl23, RdS.cellB rf (Ext.pres eB), RdS.cells rf, BoxAt.cell hb0_0, BoxAt.cell hb0_1, wrap_id, Int.add_sub_cancel]
  refine hK _ _ ?_
  clear hK K
  refine den_cond rfl (fun c0 => ?_) (fun c0 => ?_)
  ·try simp only [decide_eq_true_eq, decide_eq_false_iff_not, beq_iff_eq, beq_eq_false_iff_ne, bne_iff_ne, ne_eq, Bool.not_eq_true', Bool.not_eq_false', Bool.and_eq_true, Bool.or_eq_true, bne_eq_false_iff_eq] at c0
   refine den_skip ?_
   refine den_seq ?_
   refine den_block ?_
   refine den_seq ?_
   refine den_region TTok ?_
   intro K hK
   simp -implicitDefEqProofs (disch := first | decide | assumption | omega) only [go_sem, RdS.len hdX sl22, RdS.idx hdX sl22, R1.intB hdX (Ext.pres eB), RdS.cells hdX, RdS.len hmX sl23, RdS.idx hmX sl23, RdS.cellB hmX (Ext.pres eB), RdS.cells hmX, RdS.len hdY sl22, RdS.idx hdY sl22, R1.intB hdY (Ext.pres eB), RdS.cells hdY, RdS.len hmY sl23, RdS.idx hmY sl23, RdS.cellB hmY (Ext.pres eB), RdS.cells hmY, RdS.len rf sl23, RdS.idx rf sl23, RdS.cellB rf (Ext.pres eB), RdS.cells rf, BoxAt.cell hb0_0, BoxAt.cell hb0_1, wrap_id, Int.add_sub_cancel]
   refine hK _ _ ?_
   clear hK K
   refine den_block ?_
   refine den_sel [8, 2, 3, 4, 7] ?_
   intro env_5
   simp only [go_sem]
   refine den_loopS (σ := Nat) (fun st_ => [(8, .int .i64 (st_ : Int))]) (fun st_ H => (st_ ≤ (f.getD ((k : Int) + 1).toNat default).length) ∧ (∀ j, j < st_ → chnAt X Y f k j) ∧ (Ext h4 H)) (fun st_ => (f.getD ((k : Int) + 1).toNat default).length - st_) 0 ?_ ?_
   ·exact ⟨by simp, fun j hj => by omega, Ext.refl _⟩
   ·rintro i h8 ee7 ⟨hi, hy, cL6⟩
    replace hb0_0 := BoxAt.ext hb0_0 cL6
    replace hb0_1 := BoxAt.ext hb0_1 cL6
    have := Ext.size cL6
    replace eB := Ext.trans eB cL6
    replace cL2 := Ext.trans cL2 cL6
    simp only [List.cons_append, List.nil_append]
    refine den_seq ?_
    refine den_seq ?_
    have hfa := (hF.at (n := ((k : Int) + 1).toNat) (by omega)).1
    refine den_region TTok ?_
    intro K hK
    simp -implicitDefEqProofs (disch := first | decide | assumption | omega) only [go_sem, fa30_1, ld22, ld2, RdS.len hdX sl22, RdS.idx hdX sl22, R1.intB hdX (Ext.pres eB), RdS.cells hdX, RdS.len hmX sl23, RdS.idx hmX sl23, RdS.cellB hmX (Ext.pres eB), RdS.cells hmX, RdS.len hdY sl22, RdS.idx hdY sl22, R1.intB hdY (Ext.pres eB), RdS.cells hdY, RdS.len hmY sl23, RdS.idx hmY sl23, RdS.cellB hmY (Ext.pres eB), RdS.cells hmY, RdS.len rf sl23, RdS.idx rf sl23, RdS.cellB rf (Ext.pres eB), RdS.cells rf, BoxAt.cell hb0_0, BoxAt.cell hb0_1, wrap_id, Int.add_sub_cancel]
    refine hK _ _ ?_
    clear hK K
    refine den_cond rfl (fun c1 => ?_) (fun c1 => ?_)
    ·try simp only [decide_eq_true_eq, decide_eq_false_iff_not, beq_iff_eq, beq_eq_false_iff_ne, bne_iff_ne, ne_eq, Bool.not_eq_true', Bool.not_eq_false', Bool.and_eq_true, Bool.or_eq_true, bne_eq_false_iff_eq] at c1
     refine den_skip ?_
     refine den_seq ?_
     refine den_block ?_
     refine den_seq ?_
     have hR := chnR hX hY hp hl hF (k := k) (i := i) (by omega) (by omega)
     have hRi := hR.hi
     have hRm := hR.ml
     have hRl := hR.row.1
     have hRy := hR.img.1
     have hdm := dm_at hX.dm (k := ((k : Int) + 1).toNat) (by omega)
     have hdu := diff_unit hX (k := k) (i := i) (by omega) (by omega)
     have hul : ((unitP (X.dims.getD ((k : Int) + 1).toNat 0).toNat i).length : Int) = X.dims.getD ((k : Int) + 1).toNat 0 := by rw [unitP, List.length_set, List.length_replicate]; omega
     have hub : Bnd X.p (unitP (X.dims.getD ((k : Int) + 1).toNat 0).toNat i) := unit_bnd hX.p _ _
     have hyb := hR.img.2
     have hvv : 0 ≤ (k : Int) ∧ (k : Int) ≤ (X.dims.length : Int) - 1 → ((diffP X ((k : Int) + 1) (unitP (X.dims.getD ((k : Int) + 1).toNat 0).toNat i)).length : Int) = X.dims.getD (k : Int).toNat 0 ∧ Bnd X.p (diffP X ((k : Int) + 1) (unitP (X.dims.getD ((k : Int) + 1).toNat 0).toNat i)) := fun _ => by rw [hdu]; exact hR.row
     refine den_region TTok ?_
     intro K hK
     simp -implicitDefEqProofs (disch := first | decide | assumption | omega) only [go_sem, fa30_1, ld22, ld2, RdS.len hdX sl22, RdS.idx hdX sl22, R1.intB hdX (Ext.pres eB), RdS.cells hdX, RdS.len hmX sl23, RdS.idx hmX sl23, RdS.cellB hmX (Ext.pres eB), RdS.cells hmX, RdS.len hdY sl22, RdS.idx hdY sl22, R1.intB hdY (Ext.pres eB), RdS.cells hdY, RdS.len hmY sl23, RdS.idx hmY sl23, RdS.cellB hmY (Ext.pres eB), RdS.cells hmY, RdS.len rf sl23, RdS.idx rf sl23, RdS.cellB rf (Ext.pres eB), RdS.cells rf, BoxAt.cell hb0_0, BoxAt.cell hb0_1, wrap_id, Int.add_sub_cancel]
     try simp -implicitDefEqProofs (disch := first | decide | assumption | omega) only [go_sem, RdS.len hdX sl22, RdS.idx hdX sl22, R1.intB hdX (Ext.pres eB), RdS.cells hdX, RdS.len hmX sl23, RdS.idx hmX sl23, RdS.cellB hmX (Ext.pres eB), RdS.cells hmX, RdS.len hdY sl22, RdS.idx hdY sl22, R1.intB hdY (Ext.pres eB), RdS.cells hdY, RdS.len hmY sl23, RdS.idx hmY sl23, RdS.cellB hmY (Ext.pres eB), RdS.cells hmY, RdS.len rf sl23, RdS.idx rf sl23, RdS.cellB rf (Ext.pres eB), RdS.cells rf, BoxAt.cell hb0_0, BoxAt.cell hb0_1, wrap_id, Int.add_sub_cancel]
     refine CallA.mono (sUnit_ok  ((X.dims).getD (((k : Int) + (1 : Int))).toNat 0) (i : Int) _  (by omega)) ?_
     intro vw7_6_0 h7_6
     rintro ⟨zvw7_6_0, fw7_6_0, rfl, how7_6_0, hfw7_6_0, e7_6⟩
     replace hb0_0 := BoxAt.ext hb0_0 e7_6
     replace hb0_1 := BoxAt.ext hb0_1 e7_6
     have := Ext.size e7_6
     replace eB := Ext.trans eB e7_6
     replace cL2 := Ext.trans cL2 e7_6
     replace cL6 := Ext.trans cL6 e7_6
     have hlhow7_6_0 := OS.lt how7_6_0
     try simp -implicitDefEqProofs (disch := first | decide | assumption | omega) only [go_sem, RdS.len hdX sl22, RdS.idx hdX sl22, R1.intB hdX (Ext.pres eB), RdS.cells hdX, RdS.len hmX sl23, RdS.idx hmX sl23, RdS.cellB hmX (Ext.pres eB), RdS.cells hmX, RdS.len hdY sl22, RdS.idx hdY sl22, R1.intB hdY (Ext.pres eB), RdS.cells hdY, RdS.len hmY sl23, RdS.idx hmY sl23, RdS.cellB hmY (Ext.pres eB), RdS.cells hmY, RdS.len rf sl23, RdS.idx rf sl23, RdS.cellB rf (Ext.pres eB), RdS.cells rf, RdS.len (OS.rd how7_6_0) sl22, RdS.idx (OS.rd how7_6_0) sl22, R1.intN (OS.rd how7_6_0), RdS.cells (OS.rd how7_6_0), BoxAt.cell hb0_0, BoxAt.cell hb0_1, wrap_id, Int.add_sub_cancel]
     refine hK _ _ ?_
     clear hK K
     refine den_seq ?_
     refine den_draw TTok mixed [] [(0, true), (1, true), (2, true), (3, true), (4, true), (5, true), (6, true), (7, true), (10, true), (11, true), (12, true), (13, true), (14, true), (15, true), (16, true), (17, true), (18, true), (8, false), (9, false), (19, false), (20, false), (21, true)] (by kernel_rfl) ?_
     intro K hK
     have hr9 := RdS.rowN rf (((k : Int) + (1 : Int))).toNat (by omega)
     have hlhr9 := RdS.le hr9
     have hr10 := RdS.rowN hr9 i (by omega)
     have hlhr10 := RdS.le hr10
     simp -implicitDefEqProofs (disch := first | decide | assumption | omega) only [go_sem, ld36, ld22, ld30, RdS.len hdX sl22, RdS.idx hdX sl22, R1.intB hdX (Ext.pres eB), RdS.cells hdX, RdS.len hmX sl23, RdS.idx hmX sl23, RdS.cellB hmX (Ext.pres eB), RdS.cells hmX, RdS.len hdY sl22, RdS.idx hdY sl22, R1.intB hdY (Ext.pres eB), RdS.cells hdY, RdS.len hmY sl23, RdS.idx hmY sl23, RdS.cellB hmY (Ext.pres eB), RdS.cells hmY, RdS.len rf sl23, RdS.idx rf sl23, RdS.cellB rf (Ext.pres eB), RdS.cells rf, RdS.len hr9 sl36, RdS.idx hr9 sl36, RdS.cellB hr9 (Ext.pres eB), RdS.cells hr9, RdS.len hr10 sl22, RdS.idx hr10 sl22, R1.intB hr10 (Ext.pres eB), RdS.cells hr10, RdS.len (OS.rd how7_6_0) sl22, RdS.idx (OS.rd how7_6_0) sl22, R1.intN (OS.rd how7_6_0), RdS.cells (OS.rd how7_6_0), BoxAt.cell hb0_0, BoxAt.cell hb0_1, wrap_id, Int.add_sub_cancel]
     try simp -implicitDefEqProofs (disch := first | decide | assumption | omega) only [go_sem, RdS.len hdX sl22, RdS.idx hdX sl22, R1.intB hdX (Ext.pres eB), RdS.cells hdX, RdS.len hmX sl23, RdS.idx hmX sl23, RdS.cellB hmX (Ext.pres eB), RdS.cells hmX, RdS.len hdY sl22, RdS.idx hdY sl22, R1.intB hdY (Ext.pres eB), RdS.cells hdY, RdS.len hmY sl23, RdS.idx hmY sl23, RdS.cellB hmY (Ext.pres eB), RdS.cells hmY, RdS.len rf sl23, RdS.idx rf sl23, RdS.cellB rf (Ext.pres eB), RdS.cells rf, RdS.len hr9 sl36, RdS.idx hr9 sl36, RdS.cellB hr9 (Ext.pres eB), RdS.cells hr9, RdS.len hr10 sl22, RdS.idx hr10 sl22, R1.intB hr10 (Ext.pres eB), RdS.cells hr10, RdS.len (OS.rd how7_6_0) sl22, RdS.idx (OS.rd how7_6_0) sl22, R1.intN (OS.rd how7_6_0), RdS.cells (OS.rd how7_6_0), BoxAt.cell hb0_0, BoxAt.cell hb0_1, wrap_id, Int.add_sub_cancel]
     refine CallA.mono (sD_ok _ _ X ((k : Int) + (1 : Int)) (unitP ((X.dims).getD (((k : Int) + (1 : Int))).toNat 0).toNat (i : Int).toNat) _ ⟨_, _, rfl, (RdS.pres hdX (Ext.pres eB)), (RdS.pres hmX (Ext.pres eB))⟩ (OS.rd how7_6_0) hCX (by omega) (by first | assumption | omega) (by assumption)) ?_
     intro vw8_8_0 h8_8
     rintro ⟨zvw8_8_0, fw8_8_0, rfl, how8_8_0, hfw8_8_0, e8_8⟩
     replace how7_6_0 := OS.ext how7_6_0 e8_8
     replace hb0_0 := BoxAt.ext hb0_0 e8_8
     replace hb0_1 := BoxAt.ext hb0_1 e8_8
     have := Ext.size e8_8
     replace eB := Ext.trans eB e8_8
     replace cL2 := Ext.trans cL2 e8_8
     replace cL6 := Ext.trans cL6 e8_8
     have hlhow8_8_0 := OS.lt how8_8_0
     try simp (disch := decide) only [outv_some, outv_none, put_puts]
     refine plK_pres (Ext.pres e8_8) ?_
     try simp -implicitDefEqProofs (disch := first | decide | assumption | omega) only [go_sem, RdS.len hdX sl22, RdS.idx hdX sl22, R1.intB hdX (Ext.pres eB), RdS.cells hdX, RdS.len hmX sl23, RdS.idx hmX sl23, RdS.cellB hmX (Ext.pres eB), RdS.cells hmX, RdS.len hdY sl22, RdS.idx hdY sl22, R1.intB hdY (Ext.pres eB), RdS.cells hdY, RdS.len hmY sl23, RdS.idx hmY sl23, RdS.cellB hmY (Ext.pres eB), RdS.cells hmY, RdS.len rf sl23, RdS.idx rf sl23, RdS.cellB rf (Ext.pres eB), RdS.cells rf, RdS.len hr9 sl36, RdS.idx hr9 sl36, RdS.cellB hr9 (Ext.pres eB), RdS.cells hr9, RdS.len hr10 sl22, RdS.idx hr10 sl22, R1.intB hr10 (Ext.pres eB), RdS.cells hr10, RdS.len (OS.rd how7_6_0) sl22, RdS.idx (OS.rd how7_6_0) sl22, R1.intN (OS.rd how7_6_0), RdS.cells (OS.rd how7_6_0), RdS.len (OS.rd how8_8_0) sl22, RdS.idx (OS.rd how8_8_0) sl22, R1.intN (OS.rd how8_8_0), RdS.cells (OS.rd how8_8_0), BoxAt.cell hb0_0, BoxAt.cell hb0_1, wrap_id, Int.add_sub_cancel]
     try simp -implicitDefEqProofs (disch := first | decide | assumption | omega) only [go_sem, RdS.len hdX sl22, RdS.idx hdX sl22, R1.intB hdX (Ext.pres eB), RdS.cells hdX, RdS.len hmX sl23, RdS.idx hmX sl23, RdS.cellB hmX (Ext.pres eB), RdS.cells hmX, RdS.len hdY sl22, RdS.idx hdY sl22, R1.intB hdY (Ext.pres eB), RdS.cells hdY, RdS.len hmY sl23, RdS.idx hmY sl23, RdS.cellB hmY (Ext.pres eB), RdS.cells hmY, RdS.len rf sl23, RdS.idx rf sl23, RdS.cellB rf (Ext.pres eB), RdS.cells rf, RdS.len hr9 sl36, RdS.idx hr9 sl36, RdS.cellB hr9 (Ext.pres eB), RdS.cells hr9, RdS.len hr10 sl22, RdS.idx hr10 sl22, R1.intB hr10 (Ext.pres eB), RdS.cells hr10, RdS.len (OS.rd how7_6_0) sl22, RdS.idx (OS.rd how7_6_0) sl22, R1.intN (OS.rd how7_6_0), RdS.cells (OS.rd how7_6_0), RdS.len (OS.rd how8_8_0) sl22, RdS.idx (OS.rd how8_8_0) sl22, R1.intN (OS.rd how8_8_0), RdS.cells (OS.rd how8_8_0), BoxAt.cell hb0_0, BoxAt.cell hb0_1, wrap_id, Int.add_sub_cancel]
     refine CallA.mono (sImg_ok _ _ _ _ X Y f (k : Int) (0 : Int) (diffP X ((k : Int) + (1 : Int)) (unitP ((X.dims).getD (((k : Int) + (1 : Int))).toNat 0).toNat (i : Int).toNat)) _ ⟨_, _, rfl, (RdS.pres hdX (Ext.pres eB)), (RdS.pres hmX (Ext.pres eB))⟩ ⟨_, _, rfl, (RdS.pres hdY (Ext.pres eB)), (RdS.pres hmY (Ext.pres eB))⟩ (RdS.pres rf (Ext.pres eB)) (OS.rd how8_8_0) hX hY hF (by omega) (by omega) hvv) ?_
     intro vw8_9_0 h8_9
     rintro ⟨zvw8_9_0, fw8_9_0, rfl, how8_9_0, hfw8_9_0, e8_9⟩
     replace how7_6_0 := OS.ext how7_6_0 e8_9
     replace how8_8_0 := OS.ext how8_8_0 e8_9
     replace hb0_0 := BoxAt.ext hb0_0 e8_9
     replace hb0_1 := BoxAt.ext hb0_1 e8_9
     have := Ext.size e8_9
     replace eB := Ext.trans eB e8_9
     replace cL2 := Ext.trans cL2 e8_9
     replace cL6 := Ext.trans cL6 e8_9
     have hlhow8_9_0 := OS.lt how8_9_0
     try simp (disch := decide) only [outv_some, outv_none, put_puts]
     refine plK_pres (Ext.pres e8_9) ?_
     try simp -implicitDefEqProofs (disch := first | decide | assumption | omega) only [go_sem, RdS.len hdX sl22, RdS.idx hdX sl22, R1.intB hdX (Ext.pres eB), RdS.cells hdX, RdS.len hmX sl23, RdS.idx hmX sl23, RdS.cellB hmX (Ext.pres eB), RdS.cells hmX, RdS.len hdY sl22, RdS.idx hdY sl22, R1.intB hdY (Ext.pres eB), RdS.cells hdY, RdS.len hmY sl23, RdS.idx hmY sl23, RdS.cellB hmY (Ext.pres eB), RdS.cells hmY, RdS.len rf sl23, RdS.idx rf sl23, RdS.cellB rf (Ext.pres eB), RdS.cells rf, RdS.len hr9 sl36, RdS.idx hr9 sl36, RdS.cellB hr9 (Ext.pres eB), RdS.cells hr9, RdS.len hr10 sl22, RdS.idx hr10 sl22, R1.intB hr10 (Ext.pres eB), RdS.cells hr10, RdS.len (OS.rd how7_6_0) sl22, RdS.idx (OS.rd how7_6_0) sl22, R1.intN (OS.rd how7_6_0), RdS.cells (OS.rd how7_6_0), RdS.len (OS.rd how8_8_0) sl22, RdS.idx (OS.rd how8_8_0) sl22, R1.intN (OS.rd how8_8_0), RdS.cells (OS.rd how8_8_0), RdS.len (OS.rd how8_9_0) sl22, RdS.idx (OS.rd how8_9_0) sl22, R1.intN (OS.rd how8_9_0), RdS.cells (OS.rd how8_9_0), BoxAt.cell hb0_0, BoxAt.cell hb0_1, wrap_id, Int.add_sub_cancel]
     try simp -implicitDefEqProofs (disch := first | decide | assumption | omega) only [go_sem, RdS.len hdX sl22, RdS.idx hdX sl22, R1.intB hdX (Ext.pres eB), RdS.cells hdX, RdS.len hmX sl23, RdS.idx hmX sl23, RdS.cellB hmX (Ext.pres eB), RdS.cells hmX, RdS.len hdY sl22, RdS.idx hdY sl22, R1.intB hdY (Ext.pres eB), RdS.cells hdY, RdS.len hmY sl23, RdS.idx hmY sl23, RdS.cellB hmY (Ext.pres eB), RdS.cells hmY, RdS.len rf sl23, RdS.idx rf sl23, RdS.cellB rf (Ext.pres eB), RdS.cells rf, RdS.len hr9 sl36, RdS.idx hr9 sl36, RdS.cellB hr9 (Ext.pres eB), RdS.cells hr9, RdS.len hr10 sl22, RdS.idx hr10 sl22, R1.intB hr10 (Ext.pres eB), RdS.cells hr10, RdS.len (OS.rd how7_6_0) sl22, RdS.idx (OS.rd how7_6_0) sl22, R1.intN (OS.rd how7_6_0), RdS.cells (OS.rd how7_6_0), RdS.len (OS.rd how8_8_0) sl22, RdS.idx (OS.rd how8_8_0) sl22, R1.intN (OS.rd how8_8_0), RdS.cells (OS.rd how8_8_0), RdS.len (OS.rd how8_9_0) sl22, RdS.idx (OS.rd how8_9_0) sl22, R1.intN (OS.rd how8_9_0), RdS.cells (OS.rd how8_9_0), BoxAt.cell hb0_0, BoxAt.cell hb0_1, wrap_id, Int.add_sub_cancel]
     refine CallA.mono (sD_ok _ _ Y ((k : Int) + (1 : Int)) (((f).getD (((k : Int) + (1 : Int))).toNat default).getD i default) _ ⟨_, _, rfl, (RdS.pres hdY (Ext.pres eB)), (RdS.pres hmY (Ext.pres eB))⟩ (RdS.pres hr10 (Ext.pres eB)) hCY (by omega) (by first | assumption | omega) (by assumption)) ?_
     intro vw8_19_0 h8_19
     rintro ⟨zvw8_19_0, fw8_19_0, rfl, how8_19_0, hfw8_19_0, e8_19⟩
     replace how7_6_0 := OS.ext how7_6_0 e8_19
     replace how8_8_0 := OS.ext how8_8_0 e8_19
     replace how8_9_0 := OS.ext how8_9_0 e8_19
     replace hb0_0 := BoxAt.ext hb0_0 e8_19
     replace hb0_1 := BoxAt.ext hb0_1 e8_19
     have := Ext.size e8_19
     replace eB := Ext.trans eB e8_19
     replace cL2 := Ext.trans cL2 e8_19
     replace cL6 := Ext.trans cL6 e8_19
     have hlhow8_19_0 := OS.lt how8_19_0
     try simp (disch := decide) only [outv_some, outv_none, put_puts]
     refine plK_pres (Ext.pres e8_19) ?_
     try simp -implicitDefEqProofs (disch := first | decide | assumption | omega) only [go_sem, RdS.len hdX sl22, RdS.idx hdX sl22, R1.intB hdX (Ext.pres eB), RdS.cells hdX, RdS.len hmX sl23, RdS.idx hmX sl23, RdS.cellB hmX (Ext.pres eB), RdS.cells hmX, RdS.len hdY sl22, RdS.idx hdY sl22, R1.intB hdY (Ext.pres eB), RdS.cells hdY, RdS.len hmY sl23, RdS.idx hmY sl23, RdS.cellB hmY (Ext.pres eB), RdS.cells hmY, RdS.len rf sl23, RdS.idx rf sl23, RdS.cellB rf (Ext.pres eB), RdS.cells rf, RdS.len hr9 sl36, RdS.idx hr9 sl36, RdS.cellB hr9 (Ext.pres eB), RdS.cells hr9, RdS.len hr10 sl22, RdS.idx hr10 sl22, R1.intB hr10 (Ext.pres eB), RdS.cells hr10, RdS.len (OS.rd how7_6_0) sl22, RdS.idx (OS.rd how7_6_0) sl22, R1.intN (OS.rd how7_6_0), RdS.cells (OS.rd how7_6_0), RdS.len (OS.rd how8_8_0) sl22, RdS.idx (OS.rd how8_8_0) sl22, R1.intN (OS.rd how8_8_0), RdS.cells (OS.rd how8_8_0), RdS.len (OS.rd how8_9_0) sl22, RdS.idx (OS.rd how8_9_0) sl22, R1.intN (OS.rd how8_9_0), RdS.cells (OS.rd how8_9_0), RdS.len (OS.rd how8_19_0) sl22, RdS.idx (OS.rd how8_19_0) sl22, R1.intN (OS.rd how8_19_0), RdS.cells (OS.rd how8_19_0), BoxAt.cell hb0_0, BoxAt.cell hb0_1, wrap_id, Int.add_sub_cancel]
     try simp -implicitDefEqProofs (disch := first | decide | assumption | omega) only [go_sem, RdS.len hdX sl22, RdS.idx hdX sl22, R1.intB hdX (Ext.pres eB), RdS.cells hdX, RdS.len hmX sl23, RdS.idx hmX sl23, RdS.cellB hmX (Ext.pres eB), RdS.cells hmX, RdS.len hdY sl22, RdS.idx hdY sl22, R1.intB hdY (Ext.pres eB), RdS.cells hdY, RdS.len hmY sl23, RdS.idx hmY sl23, RdS.cellB hmY (Ext.pres eB), RdS.cells hmY, RdS.len rf sl23, RdS.idx rf sl23, RdS.cellB rf (Ext.pres eB), RdS.cells rf, RdS.len hr9 sl36, RdS.idx hr9 sl36, RdS.cellB hr9 (Ext.pres eB), RdS.cells hr9, RdS.len hr10 sl22, RdS.idx hr10 sl22, R1.intB hr10 (Ext.pres eB), RdS.cells hr10, RdS.len (OS.rd how7_6_0) sl22, RdS.idx (OS.rd how7_6_0) sl22, R1.intN (OS.rd how7_6_0), RdS.cells (OS.rd how7_6_0), RdS.len (OS.rd how8_8_0) sl22, RdS.idx (OS.rd how8_8_0) sl22, R1.intN (OS.rd how8_8_0), RdS.cells (OS.rd how8_8_0), RdS.len (OS.rd how8_9_0) sl22, RdS.idx (OS.rd how8_9_0) sl22, R1.intN (OS.rd how8_9_0), RdS.cells (OS.rd how8_9_0), RdS.len (OS.rd how8_19_0) sl22, RdS.idx (OS.rd how8_19_0) sl22, R1.intN (OS.rd how8_19_0), RdS.cells (OS.rd how8_19_0), BoxAt.cell hb0_0, BoxAt.cell hb0_1, wrap_id, Int.add_sub_cancel]
     refine CallA.mono (same1_ok _ _ (imgP X Y f (0 : Int) (k : Int) (diffP X ((k : Int) + (1 : Int)) (unitP ((X.dims).getD (((k : Int) + (1 : Int))).toNat 0).toNat (i : Int).toNat))) (diffP Y ((k : Int) + (1 : Int)) (((f).getD (((k : Int) + (1 : Int))).toNat default).getD i default)) _ (OS.rd how8_9_0) (OS.rd how8_19_0) ) ?_
     intro v_ h8_20
     rintro ⟨rfl, e8_20⟩
     replace how7_6_0 := OS.ext how7_6_0 e8_20
     replace how8_8_0 := OS.ext how8_8_0 e8_20
     replace how8_9_0 := OS.ext how8_9_0 e8_20
     replace how8_19_0 := OS.ext how8_19_0 e8_20
     replace hb0_0 := BoxAt.ext hb0_0 e8_20
     replace hb0_1 := BoxAt.ext hb0_1 e8_20
     have := Ext.size e8_20
     replace eB := Ext.trans eB e8_20
     replace cL2 := Ext.trans cL2 e8_20
     replace cL6 := Ext.trans cL6 e8_20
     try simp (disch := decide) only [outv_some, outv_none, put_puts]
     refine plK_pres (Ext.pres e8_20) ?_
     try simp -implicitDefEqProofs (disch := first | decide | assumption | omega) only [go_sem, RdS.len hdX sl22, RdS.idx hdX sl22, R1.intB hdX (Ext.pres eB), RdS.cells hdX, RdS.len hmX sl23, RdS.idx hmX sl23, RdS.cellB hmX (Ext.pres eB), RdS.cells hmX, RdS.len hdY sl22, RdS.idx hdY sl22, R1.intB hdY (Ext.pres eB), RdS.cells hdY, RdS.len hmY sl23, RdS.idx hmY sl23, RdS.cellB hmY (Ext.pres eB), RdS.cells hmY, RdS.len rf sl23, RdS.idx rf sl23, RdS.cellB rf (Ext.pres eB), RdS.cells rf, RdS.len hr9 sl36, RdS.idx hr9 sl36, RdS.cellB hr9 (Ext.pres eB), RdS.cells hr9, RdS.len hr10 sl22, RdS.idx hr10 sl22, R1.intB hr10 (Ext.pres eB), RdS.cells hr10, RdS.len (OS.rd how7_6_0) sl22, RdS.idx (OS.rd how7_6_0) sl22, R1.intN (OS.rd how7_6_0), RdS.cells (OS.rd how7_6_0), RdS.len (OS.rd how8_8_0) sl22, RdS.idx (OS.rd how8_8_0) sl22, R1.intN (OS.rd how8_8_0), RdS.cells (OS.rd how8_8_0), RdS.len (OS.rd how8_9_0) sl22, RdS.idx (OS.rd how8_9_0) sl22, R1.intN (OS.rd how8_9_0), RdS.cells (OS.rd how8_9_0), RdS.len (OS.rd how8_19_0) sl22, RdS.idx (OS.rd how8_19_0) sl22, R1.intN (OS.rd how8_19_0), RdS.cells (OS.rd how8_19_0), BoxAt.cell hb0_0, BoxAt.cell hb0_1, wrap_id, Int.add_sub_cancel]
     refine hK _ _ ?_
     clear hK K
     refine den_cond rfl (fun c2 => ?_) (fun c2 => ?_)
     ·try simp only [decide_eq_true_eq, decide_eq_false_iff_not, beq_iff_eq, beq_eq_false_iff_ne, bne_iff_ne, ne_eq, Bool.not_eq_true', Bool.not_eq_false', Bool.and_eq_true, Bool.or_eq_true, bne_eq_false_iff_eq] at c2
      refine den_seq ?_
      refine den_region TTok ?_
      intro K hK
      simp -implicitDefEqProofs (disch := first | decide | assumption | omega) only [go_sem, RdS.len hdX sl22, RdS.idx hdX sl22, R1.intB hdX (Ext.pres eB), RdS.cells hdX, RdS.len hmX sl23, RdS.idx hmX sl23, RdS.cellB hmX (Ext.pres eB), RdS.cells hmX, RdS.len hdY sl22, RdS.idx hdY sl22, R1.intB hdY (Ext.pres eB), RdS.cells hdY, RdS.len hmY sl23, RdS.idx hmY sl23, RdS.cellB hmY (Ext.pres eB), RdS.cells hmY, RdS.len rf sl23, RdS.idx rf sl23, RdS.cellB rf (Ext.pres eB), RdS.cells rf, RdS.len hr9 sl36, RdS.idx hr9 sl36, RdS.cellB hr9 (Ext.pres eB), RdS.cells hr9, RdS.len hr10 sl22, RdS.idx hr10 sl22, R1.intB hr10 (Ext.pres eB), RdS.cells hr10, wrap_id, Int.add_sub_cancel]
      refine hK _ _ ?_
      clear hK K
      refine den_ret ?_
      simp (disch := decide) only [resP_1, puts_same, puts_ne]
      exact ⟨vbool (pdec_no fun hC => by have h := hC k (by omega) i (by omega); unfold chnAt at h; rw [hdu] at c2; exact c2 h), eB⟩
     ·try simp only [decide_eq_true_eq, decide_eq_false_iff_not, beq_iff_eq, beq_eq_false_iff_ne, bne_iff_ne, ne_eq, Bool.not_eq_true', Bool.not_eq_false', Bool.and_eq_true, Bool.or_eq_true, bne_eq_false_iff_eq] at c2
      refine den_skip ?_
      refine den_blk ?_
      refine den_region TTok ?_
      intro K hK
      simp -implicitDefEqProofs (disch := first | decide | assumption | omega) only [go_sem, RdS.len hdX sl22, RdS.idx hdX sl22, R1.intB hdX (Ext.pres eB), RdS.cells hdX, RdS.len hmX sl23, RdS.idx hmX sl23, RdS.cellB hmX (Ext.pres eB), RdS.cells hmX, RdS.len hdY sl22, RdS.idx hdY sl22, R1.intB hdY (Ext.pres eB), RdS.cells hdY, RdS.len hmY sl23, RdS.idx hmY sl23, RdS.cellB hmY (Ext.pres eB), RdS.cells hmY, RdS.len rf sl23, RdS.idx rf sl23, RdS.cellB rf (Ext.pres eB), RdS.cells rf, RdS.len hr9 sl36, RdS.idx hr9 sl36, RdS.cellB hr9 (Ext.pres eB), RdS.cells hr9, RdS.len hr10 sl22, RdS.idx hr10 sl22, R1.intB hr10 (Ext.pres eB), RdS.cells hr10, BoxAt.cell hb0_0, BoxAt.cell hb0_1, wrap_id, Int.add_sub_cancel]
      refine hK _ _ ?_
      clear hK K
      refine den_stop ?_
      exact ⟨i + 1, by simp [HasL, puts_at], ⟨by omega, fun j hj => (Nat.lt_succ_iff_lt_or_eq.1 hj).elim (hy j) (fun e => by subst e; have h := c2; rw [hdu] at h; exact h), cL6⟩, by first | omega | (dsimp only; omega)⟩
    ·try simp only [decide_eq_true_eq, decide_eq_false_iff_not, beq_iff_eq, beq_eq_false_iff_ne, bne_iff_ne, ne_eq, Bool.not_eq_true', Bool.not_eq_false', Bool.and_eq_true, Bool.or_eq_true, bne_eq_false_iff_eq] at c1
     refine den_exit ?_
     refine denX_code ?_
     refine denX_stop ?_
     refine denX_hit ?_
     refine den_blk ?_
     refine den_region TTok ?_
     intro K hK
     simp -implicitDefEqProofs (disch := first | decide | assumption | omega) only [go_sem, RdS.len hdX sl22, RdS.idx hdX sl22, R1.intB hdX (Ext.pres eB), RdS.cells hdX, RdS.len hmX sl23, RdS.idx hmX sl23, RdS.cellB hmX (Ext.pres eB), RdS.cells hmX, RdS.len hdY sl22, RdS.idx hdY sl22, R1.intB hdY (Ext.pres eB), RdS.cells hdY, RdS.len hmY sl23, RdS.idx hmY sl23, RdS.cellB hmY (Ext.pres eB), RdS.cells hmY, RdS.len rf sl23, RdS.idx rf sl23, RdS.cellB rf (Ext.pres eB), RdS.cells rf, BoxAt.cell hb0_0, BoxAt.cell hb0_1, wrap_id, Int.add_sub_cancel]
     refine hK _ _ ?_
     clear hK K
     refine den_stop ?_
     exact ⟨k + 1, by simp [HasL, puts_at], ⟨by omega, fun j hj => (Nat.lt_succ_iff_lt_or_eq.1 hj).elim (hz j) (fun e => by subst e; exact fun q hq => hy q (by omega)), cL2⟩, by first | omega | (dsimp only; omega)⟩
  ·try simp only [decide_eq_true_eq, decide_eq_false_iff_not, beq_iff_eq, beq_eq_false_iff_ne, bne_iff_ne, ne_eq, Bool.not_eq_true', Bool.not_eq_false', Bool.and_eq_true, Bool.or_eq_true, bne_eq_false_iff_eq] at c0
   refine den_exit ?_
   refine denX_code ?_
   refine denX_stop ?_
   refine denX_hit ?_
   refine den_seq ?_
   refine den_region TTok ?_
   intro K hK
   simp -implicitDefEqProofs (disch := first | decide | assumption | omega) only [go_sem, RdS.len hdX sl22, RdS.idx hdX sl22, R1.intB hdX (Ext.pres eB), RdS.cells hdX, RdS.len hmX sl23, RdS.idx hmX sl23, RdS.cellB hmX (Ext.pres eB), RdS.cells hmX, RdS.len hdY sl22, RdS.idx hdY sl22, R1.intB hdY (Ext.pres eB), RdS.cells hdY, RdS.len hmY sl23, RdS.idx hmY sl23, RdS.cellB hmY (Ext.pres eB), RdS.cells hmY, RdS.len rf sl23, RdS.idx rf sl23, RdS.cellB rf (Ext.pres eB), RdS.cells rf, wrap_id, Int.add_sub_cancel]
   refine hK _ _ ?_
   clear hK K
   refine den_ret ?_
   simp (disch := decide) only [resP_1, puts_same, puts_ne]
   exact ⟨vbool (pdec_yes fun j hj => hz j (by omega)), eB⟩
end Go.Proofs.Ytbplnadngahgaaa

namespace Go.Proofs.Ytbplnadngahgaaa
open Go
def addRow (p k : Int) (a b : List Int) : List Int := (List.range a.length).map fun q : Nat => (a.getD q 0 + k * b.getD q 0) % p
def addRows (p k : Int) (A B : List (List Int)) : List (List Int) := (List.range A.length).map fun i : Nat => addRow p k (A.getD i default) (B.getD i default)
def addFam (p k : Int) (f g : List (List (List Int))) : List (List (List Int)) := (List.range f.length).map fun n : Nat => addRows p k (f.getD n default) (g.getD n default)
theorem addRow_len (p k : Int) (a b : List Int) : (addRow p k a b).length = a.length := by simp [addRow]
theorem addRow_get (p k : Int) (a b : List Int) {i : Nat} (h : i < a.length) : (addRow p k a b).getD i 0 = (a.getD i 0 + k * b.getD i 0) % p := by
 rw [addRow, List.getD_eq_getElem?_getD, List.getElem?_eq_getElem (by simpa using h)]; simp
theorem addRow_bnd {p k : Int} (hp : 0 < p) (a b : List Int) : Bnd p (addRow p k a b) := fun x hx => by
 obtain ⟨q, _, rfl⟩ := List.mem_map.1 hx
 exact ⟨Int.emod_nonneg _ (by omega), Int.emod_lt_of_pos _ hp⟩
theorem addRow_step {p k : Int} {a b : List Int} {i : Nat} (h : i < a.length) (h0 : 0 ≤ a.getD i 0 + k * b.getD i 0) : (mix (addRow p k a b) a i).set i (Int.tmod ((mix (addRow p k a b) a i).getD i 0 + k * b.getD i 0) p) = mix (addRow p k a b) a (i + 1) := by
 rw [mix_get _ _ _ _ (addRow_len p k a b) h, Int.tmod_eq_emod_of_nonneg h0, ← addRow_get p k a b h, mix_set _ _ _ _ (addRow_len p k a b) h]
structure SumOk (p : Int) (f g : List (List (List Int))) : Prop where
 len : f.length = g.length ∧ f.length ≤ 6
 rows : ∀ n, n < f.length → (f.getD n default).length = (g.getD n default).length ∧ (f.getD n default).length ≤ 8
 row : ∀ n i, n < f.length → i < (f.getD n default).length → ((f.getD n default).getD i default).length = ((g.getD n default).getD i default).length ∧ ((f.getD n default).getD i default).length ≤ 8 ∧ Bnd p ((f.getD n default).getD i default) ∧ Bnd p ((g.getD n default).getD i default)
theorem sumOk {X Y : Cx} {f g : List (List (List Int))} (hX : IsC X) (hY : IsC Y) (hf : IsFam X Y f 0) (hg : IsFam X Y g 0) : SumOk X.p f g := by
 have l1 := hf.len; have l2 := hg.len; have l3 := hX.len
 refine ⟨by omega, fun n hn => ?_, fun n i hn hi => ?_⟩
 ·have h1 := hf.at hn
  have h2 := hg.at (n := n) (by omega)
  have := dm_at hX.dm (k := n) (by omega)
  omega
 ·have h1 := hf.at hn
  have h2 := hg.at (n := n) (by omega)
  have r1 := h1.2.at hi
  have r2 := h2.2.at (k := i) (by omega)
  have := dimP_bnd hY ((n : Int) + 0)
  exact ⟨by omega, by omega, r1.2, r2.2⟩
theorem mul42 {k y p : Int} (hk : -6 ≤ k ∧ k ≤ 6) (hy : 0 ≤ y ∧ y < p) (hp : p ≤ 7) : -36 ≤ k * y ∧ k * y ≤ 36 := by
 have h1 : k * y ≤ 6 * y := Int.mul_le_mul_of_nonneg_right hk.2 hy.1
 have h2 : (-6) * y ≤ k * y := Int.mul_le_mul_of_nonneg_right hk.1 hy.1
 omega

set_option maxRecDepth 100000 in
theorem iTog_ok (vv vw : Value) (p : Int) (v : List Int) (w : List Int) (k : Int) (h : Heap) (rv : R1 h vv v) (rw : R1 h vw w) (hp : 0 < p ∧ p ≤ 7) (hl : v.length = w.length ∧ v.length ≤ 8) (hv : Bnd p v) (hw : Bnd p w) (hk : 0 ≤ k ∧ k ≤ 6) : CallA Try.prog 63 #[.int .i64 p, vv, vw, .int .i64 k] h fun v' h' => ∃ w0 f0, v' = w0 ∧ O1 h' w0 (addRow p k v w) f0 ∧ Fresh h.size f0 ∧ Ext h h' := by
 have hlev := RdS.le rv
 have hlew := RdS.le rw
 refine callA_intro TTok (args := [_, _, _, _]) Try.func63 (by kernel_rfl) rfl 36 rfl (by simp) [.tmp 8] rfl ?_
 simp only [idxs, Nat.reduceAdd]
 refine den_seq ?_
 refine den_region TTok ?_
 intro K hK
 simp -implicitDefEqProofs (disch := first | decide | assumption | omega) only [go_sem, RdS.len rv sl22, RdS.idx rv sl22, R1.intB rv (HPres.refl _), RdS.cells rv, RdS.len rw sl22, RdS.idx rw sl22, R1.intB rw (HPres.refl _), RdS.cells rw, wrap_id]
 refine hK _ _ ?_
 clear hK K
 refine den_seq ?_
 refine den_region TTok ?_
 intro K hK
 simp -implicitDefEqProofs (disch := first | decide | assumption | omega) only [go_sem, RdS.len rv sl22, RdS.idx rv sl22, R1.intB rv (HPres.refl _), RdS.cells rv, RdS.len rw sl22, RdS.idx rw sl22, R1.intB rw (HPres.refl _), RdS.cells rw, wrap_id]
 try simp -implicitDefEqProofs (disch := first | decide | assumption | omega) only [go_sem, RdS.len rv sl22, RdS.idx rv sl22, R1.intB rv (HPres.refl _), RdS.cells rv, RdS.len rw sl22, RdS.idx rw sl22, R1.intB rw (HPres.refl _), RdS.cells rw, wrap_id]
 refine CallA.mono (clone1_ok _ v _ rv (by omega)) ?_
 intro vw1_1_0 h1_1
 rintro ⟨zvw1_1_0, fw1_1_0, rfl, how1_1_0, hfw1_1_0, e1_1⟩
 have := Ext.size e1_1
 have eB := e1_1
 have hlhow1_1_0 := OS.lt how1_1_0
 try simp -implicitDefEqProofs (disch := first | decide | assumption | omega) only [go_sem, RdS.len rv sl22, RdS.idx rv sl22, R1.intB rv (Ext.pres eB), RdS.cells rv, RdS.len rw sl22, RdS.idx rw sl22, R1.intB rw (Ext.pres eB), RdS.cells rw, RdS.len (OS.rd how1_1_0) sl22, RdS.idx (OS.rd how1_1_0) sl22, R1.intN (OS.rd how1_1_0), RdS.cells (OS.rd how1_1_0), wrap_id]
 refine hK _ _ ?_
 clear hK K
 refine den_seq ?_
 refine den_seq ?_
 refine den_region TTok ?_
 intro K hK
 simp -implicitDefEqProofs (disch := first | decide | assumption | omega) only [go_sem, RdS.len rv sl22, RdS.idx rv sl22, R1.intB rv (Ext.pres eB), RdS.cells rv, RdS.len rw sl22, RdS.idx rw sl22, R1.intB rw (Ext.pres eB), RdS.cells rw, RdS.len (OS.rd how1_1_0) sl22, RdS.idx (OS.rd how1_1_0) sl22, R1.intN (OS.rd how1_1_0), RdS.cells (OS.rd how1_1_0), wrap_id]
 refine hK _ _ ?_
 clear hK K
 refine den_block ?_
 refine den_sel [16, 0, 3, 9, 14, 15] ?_
 intro env_1
 simp only [go_sem]
 refine den_loopS (σ := Nat) (fun st_ => [(16, .int .i64 (st_ : Int))]) (fun st_ H => (st_ ≤ w.length) ∧ (O1 H vw1_1_0 (mix (addRow p k v w) v st_) fw1_1_0) ∧ (Chg fw1_1_0 h1_1 H)) (fun st_ => w.length - st_) 0 ?_ ?_
 ·exact ⟨by first | (simp; done) | (dsimp only; omega) | (simp; omega), by rw [mix_zero]; exact how1_1_0, Chg.refl _ _⟩
 ·rintro i h4 ee3 ⟨hi0, hO, cL2⟩
  have := cL2.size
  replace eB := Ext.then eB cL2 (ge_of hfw1_1_0 (by omega))
  have sbhO : Sub fw1_1_0 h1_1.size fw1_1_0 := Sub.refl
  have hfhO := hfw1_1_0
  have hlhO := OS.lt hO
  simp only [List.cons_append, List.nil_append]
  refine den_seq ?_
  refine den_region TTok ?_
  intro K hK
  simp -implicitDefEqProofs (disch := first | decide | assumption | omega) only [go_sem, RdS.len rv sl22, RdS.idx rv sl22, R1.intB rv (Ext.pres eB), RdS.cells rv, RdS.len rw sl22, RdS.idx rw sl22, R1.intB rw (Ext.pres eB), RdS.cells rw, RdS.len (OS.rd hO) sl22, RdS.idx (OS.rd hO) sl22, R1.intN (OS.rd hO), RdS.cells (OS.rd hO), wrap_id]
  refine hK _ _ ?_
  clear hK K
  refine den_seq ?_
  refine den_cond rfl (fun c0 => ?_) (fun c0 => ?_)
  ·try simp only [decide_eq_true_eq, decide_eq_false_iff_not, beq_iff_eq, beq_eq_false_iff_ne, bne_iff_ne, ne_eq, Bool.not_eq_true', Bool.not_eq_false', Bool.and_eq_true, Bool.or_eq_true, bne_eq_false_iff_eq] at c0
   refine den_skip ?_
   refine den_seq ?_
   refine den_block ?_
   refine den_seq ?_
   refine den_region TTok ?_
   intro K hK
   simp -implicitDefEqProofs (disch := first | decide | assumption | omega) only [go_sem, ld2, RdS.len rv sl22, RdS.idx rv sl22, R1.intB rv (Ext.pres eB), RdS.cells rv, RdS.len rw sl22, RdS.idx rw sl22, R1.intB rw (Ext.pres eB), RdS.cells rw, RdS.len (OS.rd hO) sl22, RdS.idx (OS.rd hO) sl22, R1.intN (OS.rd hO), RdS.cells (OS.rd hO), wrap_id]
   refine hK _ _ ?_
   clear hK K
   have hml := mix_len (addRow p k v w) v i (addRow_len p k v w)
   have hxu := hv.at (k := i) (by omega)
   have hxw := hw.at (k := i) (by omega)
   have hmg := mix_get (addRow p k v w) v i 0 (addRow_len p k v w) (by omega)
   have hky := mul42 (k := k) (by omega) hxw hp.2
   have hk0 : 0 ≤ k * w.getD i 0 := Int.mul_nonneg hk.1 hxw.1
   refine den_region TTok ?_
   intro K hK
   simp -implicitDefEqProofs (disch := first | decide | assumption | omega) only [go_sem, ld2, RdS.len rv sl22, RdS.idx rv sl22, R1.intB rv (Ext.pres eB), RdS.cells rv, RdS.len rw sl22, RdS.idx rw sl22, R1.intB rw (Ext.pres eB), RdS.cells rw, RdS.len (OS.rd hO) sl22, RdS.idx (OS.rd hO) sl22, R1.intN (OS.rd hO), RdS.cells (OS.rd hO), wrap_id]
   refine op_store1 (j := i) st2 hO hfhO.nodup (by first | omega | (simp; omega)) rfl rfl ?_
   intro h5_13 ho5_13 c5_13
   have hsz5_13 := c5_13.size
   have := c5_13.size
   replace eB := Ext.then eB c5_13 (ge_of hfhO (by omega))
   replace cL2 := Chg.step cL2 c5_13 sbhO
   have hlho5_13 := OS.lt ho5_13
   have hlenho5_13 : ((mix (addRow p k v w) v i).set i (Int.tmod (((mix (addRow p k v w) v i).getD i 0) + (k * ((w).getD i 0))) p) : List Int).length = (mix (addRow p k v w) v i : List Int).length := List.length_set
   try simp -implicitDefEqProofs (disch := first | decide | assumption | omega) only [go_sem, RdS.len rv sl22, RdS.idx rv sl22, R1.intB rv (Ext.pres eB), RdS.cells rv, RdS.len rw sl22, RdS.idx rw sl22, R1.intB rw (Ext.pres eB), RdS.cells rw, RdS.len (OS.rd ho5_13) sl22, RdS.idx (OS.rd ho5_13) sl22, R1.intN (OS.rd ho5_13), RdS.cells (OS.rd ho5_13), wrap_id]
   refine hK _ _ ?_
   clear hK K
   refine den_blk ?_
   refine den_region TTok ?_
   intro K hK
   simp -implicitDefEqProofs (disch := first | decide | assumption | omega) only [go_sem, RdS.len rv sl22, RdS.idx rv sl22, R1.intB rv (Ext.pres eB), RdS.cells rv, RdS.len rw sl22, RdS.idx rw sl22, R1.intB rw (Ext.pres eB), RdS.cells rw, RdS.len (OS.rd ho5_13) sl22, RdS.idx (OS.rd ho5_13) sl22, R1.intN (OS.rd ho5_13), RdS.cells (OS.rd ho5_13), wrap_id]
   refine hK _ _ ?_
   clear hK K
   refine den_stop ?_
   rw [addRow_step (by omega) (by omega)] at ho5_13
   exact ⟨i + 1, by simp [HasL, puts_at], ⟨by first | omega | (dsimp only; omega), ho5_13, cL2⟩, by first | omega | (dsimp only; omega)⟩
  ·try simp only [decide_eq_true_eq, decide_eq_false_iff_not, beq_iff_eq, beq_eq_false_iff_ne, bne_iff_ne, ne_eq, Bool.not_eq_true', Bool.not_eq_false', Bool.and_eq_true, Bool.or_eq_true, bne_eq_false_iff_eq] at c0
   refine den_exit ?_
   refine denX_code ?_
   refine denX_stop ?_
   refine denX_hit ?_
   refine den_seq ?_
   refine den_region TTok ?_
   intro K hK
   simp -implicitDefEqProofs (disch := first | decide | assumption | omega) only [go_sem, RdS.len rv sl22, RdS.idx rv sl22, R1.intB rv (Ext.pres eB), RdS.cells rv, RdS.len rw sl22, RdS.idx rw sl22, R1.intB rw (Ext.pres eB), RdS.cells rw, RdS.len (OS.rd hO) sl22, RdS.idx (OS.rd hO) sl22, R1.intN (OS.rd hO), RdS.cells (OS.rd hO), wrap_id]
   refine hK _ _ ?_
   clear hK K
   refine den_ret ?_
   simp (disch := decide) only [resP_1, puts_same, puts_ne]
   rw [mix_end _ _ _ (addRow_len p k v w) (by omega)] at hO
   exact ⟨_, _, rfl, hO, hfhO.mono (by omega), eB⟩

set_option maxRecDepth 100000 in
theorem sSum_ok (vf vg : Value) (p : Int) (f : List (List (List Int))) (g : List (List (List Int))) (k : Int) (h : Heap) (rf : R3 h vf f) (rg : R3 h vg g) (hS : SumOk p f g) (hp : 0 < p ∧ p ≤ 7) (hk : -6 ≤ k ∧ k ≤ 6) : CallA Try.prog 57 #[.int .i64 p, vf, vg, .int .i64 k] h fun v' h' => ∃ w0 f0, v' = w0 ∧ O3 h' w0 (addFam p k f g) f0 ∧ Fresh h.size f0 ∧ Ext h h' := by
 have hlef := RdS.le rf
 have hleg := RdS.le rg
 have hlen := hS.len
 refine callA_intro TTok (args := [_, _, _, _]) Try.func57 (by kernel_rfl) rfl 82 rfl (by simp) [.tmp 8] rfl ?_
 simp only [idxs, Nat.reduceAdd]
 refine den_seq ?_
 refine den_region TTok ?_
 intro K hK
 simp -implicitDefEqProofs (disch := first | decide | assumption | omega) only [go_sem, RdS.len rf sl23, RdS.idx rf sl23, RdS.cellB rf (HPres.refl _), RdS.cells rf, RdS.len rg sl23, RdS.idx rg sl23, RdS.cellB rg (HPres.refl _), RdS.cells rg, wrap_id]
 refine hK _ _ ?_
 clear hK K
 refine den_seq ?_
 refine den_region TTok ?_
 intro K hK
 simp -implicitDefEqProofs (disch := first | decide | assumption | omega) only [go_sem, RdS.len rf sl23, RdS.idx rf sl23, RdS.cellB rf (HPres.refl _), RdS.cells rf, RdS.len rg sl23, RdS.idx rg sl23, RdS.cellB rg (HPres.refl _), RdS.cells rg, wrap_id]
 refine op_bs0 sz23 O2 ?_
 intro v1_0 h1_0 ho1_0 e1_0
 have := Ext.size e1_0
 have eB := e1_0
 have hfho1_0 : Fresh h.size [h.size] := Fresh.one _
 have hlho1_0 := OS.lt ho1_0
 try simp -implicitDefEqProofs (disch := first | decide | assumption | omega) only [go_sem, RdS.len rf sl23, RdS.idx rf sl23, RdS.cellB rf (Ext.pres eB), RdS.cells rf, RdS.len rg sl23, RdS.idx rg sl23, RdS.cellB rg (Ext.pres eB), RdS.cells rg, RdS.len (OS.rd ho1_0) sl23, RdS.idx (OS.rd ho1_0) sl23, RdS.cellN (OS.rd ho1_0), RdS.cells (OS.rd ho1_0), wrap_id]
 refine hK _ _ ?_
 clear hK K
 refine den_seq ?_
 refine den_seq ?_
 refine den_region TTok ?_
 intro K hK
 simp -implicitDefEqProofs (disch := first | decide | assumption | omega) only [go_sem, RdS.len rf sl23, RdS.idx rf sl23, RdS.cellB rf (Ext.pres eB), RdS.cells rf, RdS.len rg sl23, RdS.idx rg sl23, RdS.cellB rg (Ext.pres eB), RdS.cells rg, RdS.len (OS.rd ho1_0) sl23, RdS.idx (OS.rd ho1_0) sl23, RdS.cellN (OS.rd ho1_0), RdS.cells (OS.rd ho1_0), wrap_id]
 refine hK _ _ ?_
 clear hK K
 refine den_block ?_
 refine den_sel [9, 10, 0, 1, 2, 3] ?_
 intro env_1
 simp only [go_sem]
 refine den_loopS (σ := Nat × Value × List Nat) (fun st_ => [(9, st_.2.1), (10, .int .i64 (st_.1 : Int))]) (fun st_ H => (st_.1 ≤ f.length) ∧ (O3 H st_.2.1 ((List.range st_.1).map fun q : Nat => addRows p k (f.getD q default) (g.getD q default)) st_.2.2) ∧ (Fresh (h.size) st_.2.2) ∧ (Sub [h.size] h1_0.size st_.2.2) ∧ (Chg [h.size] h1_0 H)) (fun st_ => f.length - st_.1) (0, v1_0, [h.size]) ?_ ?_
 ·exact ⟨by first | (simp; done) | (dsimp only; omega) | (simp; omega), by simpa using ho1_0, hfho1_0, Sub.refl, Chg.refl _ _⟩
 ·rintro ⟨n, vhO, fphO⟩ h4 ee3 ⟨hi0, hO, hfhO, sbhO, cL2⟩
  dsimp only at hi0 hO hfhO sbhO cL2
  have := cL2.size
  replace eB := Ext.then eB cL2 (ge_of hfho1_0 (by omega))
  have hlhO := OS.lt hO
  simp only [List.cons_append, List.nil_append]
  have hlo : ((List.range n).map fun n : Nat => addRows p k (f.getD n default) (g.getD n default)).length = n := by simp
  refine den_seq ?_
  refine den_seq ?_
  refine den_region TTok ?_
  intro K hK
  simp -implicitDefEqProofs (disch := first | decide | assumption | omega) only [go_sem, RdS.len rf sl23, RdS.idx rf sl23, RdS.cellB rf (Ext.pres eB), RdS.cells rf, RdS.len rg sl23, RdS.idx rg sl23, RdS.cellB rg (Ext.pres eB), RdS.cells rg, RdS.len (OS.rd hO) sl23, RdS.idx (OS.rd hO) sl23, RdS.cellN (OS.rd hO), RdS.cells (OS.rd hO), wrap_id]
  refine hK _ _ ?_
  clear hK K
  refine den_cond rfl (fun c0 => ?_) (fun c0 => ?_)
  ·try simp only [decide_eq_true_eq, decide_eq_false_iff_not, beq_iff_eq, beq_eq_false_iff_ne, bne_iff_ne, ne_eq, Bool.not_eq_true', Bool.not_eq_false', Bool.and_eq_true, Bool.or_eq_true, bne_eq_false_iff_eq] at c0
   refine den_skip ?_
   refine den_seq ?_
   refine den_block ?_
   refine den_seq ?_
   have hro := hS.rows n (by omega)
   refine den_region TTok ?_
   intro K hK
   simp -implicitDefEqProofs (disch := first | decide | assumption | omega) only [go_sem, RdS.len rf sl23, RdS.idx rf sl23, RdS.cellB rf (Ext.pres eB), RdS.cells rf, RdS.len rg sl23, RdS.idx rg sl23, RdS.cellB rg (Ext.pres eB), RdS.cells rg, RdS.len (OS.rd hO) sl23, RdS.idx (OS.rd hO) sl23, RdS.cellN (OS.rd hO), RdS.cells (OS.rd hO), wrap_id]
   refine op_bs0 sz36 O1 ?_
   intro v5_0 h5_0 ho5_0 e5_0
   replace hO := OS.ext hO e5_0
   have := Ext.size e5_0
   replace eB := Ext.trans eB e5_0
   replace cL2 := Chg.stepE cL2 e5_0
   have hfho5_0 : Fresh h4.size [h4.size] := Fresh.one _
   have hlho5_0 := OS.lt ho5_0
   try simp -implicitDefEqProofs (disch := first | decide | assumption | omega) only [go_sem, RdS.len rf sl23, RdS.idx rf sl23, RdS.cellB rf (Ext.pres eB), RdS.cells rf, RdS.len rg sl23, RdS.idx rg sl23, RdS.cellB rg (Ext.pres eB), RdS.cells rg, RdS.len (OS.rd hO) sl23, RdS.idx (OS.rd hO) sl23, RdS.cellN (OS.rd hO), RdS.cells (OS.rd hO), RdS.len (OS.rd ho5_0) sl36, RdS.idx (OS.rd ho5_0) sl36, RdS.cellN (OS.rd ho5_0), RdS.cells (OS.rd ho5_0), wrap_id]
   refine hK _ _ ?_
   clear hK K
   refine den_seq ?_
   refine den_seq ?_
   refine den_region TTok ?_
   intro K hK
   simp -implicitDefEqProofs (disch := first | decide | assumption | omega) only [go_sem, RdS.len rf sl23, RdS.idx rf sl23, RdS.cellB rf (Ext.pres eB), RdS.cells rf, RdS.len rg sl23, RdS.idx rg sl23, RdS.cellB rg (Ext.pres eB), RdS.cells rg, RdS.len (OS.rd hO) sl23, RdS.idx (OS.rd hO) sl23, RdS.cellN (OS.rd hO), RdS.cells (OS.rd hO), RdS.len (OS.rd ho5_0) sl36, RdS.idx (OS.rd ho5_0) sl36, RdS.cellN (OS.rd ho5_0), RdS.cells (OS.rd ho5_0), wrap_id]
   refine hK _ _ ?_
   clear hK K
   refine den_block ?_
   refine den_sel [11, 12, 0, 1, 2, 3, 9, 10] ?_
   intro env_5
   simp only [go_sem]
   refine den_loopS (σ := Nat × Value × List Nat) (fun st_ => [(11, st_.2.1), (12, .int .i64 (st_.1 : Int))]) (fun st_ H => (st_.1 ≤ (f.getD n default).length) ∧ (O2 H st_.2.1 ((List.range st_.1).map fun q : Nat => addRow p k ((f.getD n default).getD q default) ((g.getD n default).getD q default)) st_.2.2) ∧ (Fresh (h4.size) st_.2.2) ∧ (Sub [h4.size] h5_0.size st_.2.2) ∧ (Chg [h4.size] h5_0 H)) (fun st_ => (f.getD n default).length - st_.1) (0, v5_0, [h4.size]) ?_ ?_
   ·exact ⟨by first | (simp; done) | (dsimp only; omega) | (simp; omega), by simpa using ho5_0, hfho5_0, Sub.refl, Chg.refl _ _⟩
   ·rintro ⟨i, vhR, fphR⟩ h8 ee7 ⟨hi0, hR, hfhR, sbhR, cL6⟩
    dsimp only at hi0 hR hfhR sbhR cL6
    replace hO := OS.chg hO cL6 (apart_lt hlhO hfho5_0 (by omega))
    have := cL6.size
    replace eB := Ext.then eB cL6 (ge_of hfho5_0 (by omega))
    replace cL2 := Chg.step cL2 cL6 (Sub.fresh hfho5_0 (by omega))
    have hlhR := OS.lt hR
    simp only [List.cons_append, List.nil_append]
    have hlr : ((List.range i).map fun i : Nat => addRow p k ((f.getD n default).getD i default) ((g.getD n default).getD i default)).length = i := by simp
    refine den_seq ?_
    refine den_seq ?_
    refine den_region TTok ?_
    intro K hK
    have hr9 := RdS.rowN rf n (by omega)
    have hlhr9 := RdS.le hr9
    simp -implicitDefEqProofs (disch := first | decide | assumption | omega) only [go_sem, ld36, RdS.len rf sl23, RdS.idx rf sl23, RdS.cellB rf (Ext.pres eB), RdS.cells rf, RdS.len rg sl23, RdS.idx rg sl23, RdS.cellB rg (Ext.pres eB), RdS.cells rg, RdS.len hr9 sl36, RdS.idx hr9 sl36, RdS.cellB hr9 (Ext.pres eB), RdS.cells hr9, RdS.len (OS.rd hO) sl23, RdS.idx (OS.rd hO) sl23, RdS.cellN (OS.rd hO), RdS.cells (OS.rd hO), RdS.len (OS.rd hR) sl36, RdS.idx (OS.rd hR) sl36, RdS.cellN (OS.rd hR), RdS.cells (OS.rd hR), wrap_id]
    refine hK _ _ ?_
    clear hK K
    refine den_cond rfl (fun c1 => ?_) (fun c1 => ?_)
    ·try simp only [decide_eq_true_eq, decide_eq_false_iff_not, beq_iff_eq, beq_eq_false_iff_ne, bne_iff_ne, ne_eq, Bool.not_eq_true', Bool.not_eq_false', Bool.and_eq_true, Bool.or_eq_true, bne_eq_false_iff_eq] at c1
     refine den_skip ?_
     refine den_seq ?_
     refine den_block ?_
     refine den_seq ?_
     have hri := hS.row n i (by omega) (by omega)
     refine den_region TTok ?_
     intro K hK
     simp -implicitDefEqProofs (disch := first | decide | assumption | omega) only [go_sem, RdS.len rf sl23, RdS.idx rf sl23, RdS.cellB rf (Ext.pres eB), RdS.cells rf, RdS.len rg sl23, RdS.idx rg sl23, RdS.cellB rg (Ext.pres eB), RdS.cells rg, RdS.len hr9 sl36, RdS.idx hr9 sl36, RdS.cellB hr9 (Ext.pres eB), RdS.cells hr9, RdS.len (OS.rd hO) sl23, RdS.idx (OS.rd hO) sl23, RdS.cellN (OS.rd hO), RdS.cells (OS.rd hO), RdS.len (OS.rd hR) sl36, RdS.idx (OS.rd hR) sl36, RdS.cellN (OS.rd hR), RdS.cells (OS.rd hR), wrap_id]
     refine op_bs0 sz22 OI ?_
     intro v9_0 h9_0 ho9_0 e9_0
     replace hO := OS.ext hO e9_0
     replace hR := OS.ext hR e9_0
     have := Ext.size e9_0
     replace eB := Ext.trans eB e9_0
     replace cL2 := Chg.stepE cL2 e9_0
     replace cL6 := Chg.stepE cL6 e9_0
     have hfho9_0 : Fresh h8.size [h8.size] := Fresh.one _
     have hlho9_0 := OS.lt ho9_0
     try simp -implicitDefEqProofs (disch := first | decide | assumption | omega) only [go_sem, RdS.len rf sl23, RdS.idx rf sl23, RdS.cellB rf (Ext.pres eB), RdS.cells rf, RdS.len rg sl23, RdS.idx rg sl23, RdS.cellB rg (Ext.pres eB), RdS.cells rg, RdS.len hr9 sl36, RdS.idx hr9 sl36, RdS.cellB hr9 (Ext.pres eB), RdS.cells hr9, RdS.len (OS.rd hO) sl23, RdS.idx (OS.rd hO) sl23, RdS.cellN (OS.rd hO), RdS.cells (OS.rd hO), RdS.len (OS.rd hR) sl36, RdS.idx (OS.rd hR) sl36, RdS.cellN (OS.rd hR), RdS.cells (OS.rd hR), RdS.len (OS.rd ho9_0) sl22, RdS.idx (OS.rd ho9_0) sl22, R1.intN (OS.rd ho9_0), RdS.cells (OS.rd ho9_0), wrap_id]
     refine hK _ _ ?_
     clear hK K
     refine den_seq ?_
     refine den_seq ?_
     refine den_region TTok ?_
     intro K hK
     simp -implicitDefEqProofs (disch := first | decide | assumption | omega) only [go_sem, RdS.len rf sl23, RdS.idx rf sl23, RdS.cellB rf (Ext.pres eB), RdS.cells rf, RdS.len rg sl23, RdS.idx rg sl23, RdS.cellB rg (Ext.pres eB), RdS.cells rg, RdS.len hr9 sl36, RdS.idx hr9 sl36, RdS.cellB hr9 (Ext.pres eB), RdS.cells hr9, RdS.len (OS.rd hO) sl23, RdS.idx (OS.rd hO) sl23, RdS.cellN (OS.rd hO), RdS.cells (OS.rd hO), RdS.len (OS.rd hR) sl36, RdS.idx (OS.rd hR) sl36, RdS.cellN (OS.rd hR), RdS.cells (OS.rd hR), RdS.len (OS.rd ho9_0) sl22, RdS.idx (OS.rd ho9_0) sl22, R1.intN (OS.rd ho9_0), RdS.cells (OS.rd ho9_0), wrap_id]
     refine hK _ _ ?_
     clear hK K
     refine den_block ?_
     refine den_sel [13, 14, 0, 1, 2, 3, 9, 10, 11, 12] ?_
     intro env_10
     simp only [go_sem]
     refine den_loopS (σ := Nat × Value × List Nat) (fun st_ => [(13, st_.2.1), (14, .int .i64 (st_.1 : Int))]) (fun st_ H => (st_.1 ≤ ((f.getD n default).getD i default).length) ∧ (O1 H st_.2.1 ((List.range st_.1).map fun q : Nat => (((f.getD n default).getD i default).getD q 0 + k * ((g.getD n default).getD i default).getD q 0) % p) st_.2.2) ∧ (Fresh (h8.size) st_.2.2) ∧ (Sub [h8.size] h9_0.size st_.2.2) ∧ (Chg [h8.size] h9_0 H)) (fun st_ => ((f.getD n default).getD i default).length - st_.1) (0, v9_0, [h8.size]) ?_ ?_
     ·exact ⟨by first | (simp; done) | (dsimp only; omega) | (simp; omega), by simpa using ho9_0, hfho9_0, Sub.refl, Chg.refl _ _⟩
     ·rintro ⟨m, vhE, fphE⟩ h13 ee12 ⟨hi0, hE, hfhE, sbhE, cL11⟩
      dsimp only at hi0 hE hfhE sbhE cL11
      replace hO := OS.chg hO cL11 (apart_lt hlhO hfho9_0 (by omega))
      replace hR := OS.chg hR cL11 (apart_lt hlhR hfho9_0 (by omega))
      have := cL11.size
      replace eB := Ext.then eB cL11 (ge_of hfho9_0 (by omega))
      replace cL2 := Chg.step cL2 cL11 (Sub.fresh hfho9_0 (by omega))
      replace cL6 := Chg.step cL6 cL11 (Sub.fresh hfho9_0 (by omega))
      have hlhE := OS.lt hE
      simp only [List.cons_append, List.nil_append]
      have hle_ : ((List.range m).map fun q : Nat => (((f.getD n default).getD i default).getD q 0 + k * ((g.getD n default).getD i default).getD q 0) % p).length = m := by simp
      refine den_seq ?_
      refine den_seq ?_
      refine den_region TTok ?_
      intro K hK
      have hr14 := RdS.rowN rf n (by omega)
      have hlhr14 := RdS.le hr14
      have hr15 := RdS.rowN hr14 i (by omega)
      have hlhr15 := RdS.le hr15
      simp -implicitDefEqProofs (disch := first | decide | assumption | omega) only [go_sem, ld36, ld22, RdS.len rf sl23, RdS.idx rf sl23, RdS.cellB rf (Ext.pres eB), RdS.cells rf, RdS.len rg sl23, RdS.idx rg sl23, RdS.cellB rg (Ext.pres eB), RdS.cells rg, RdS.len hr9 sl36, RdS.idx hr9 sl36, RdS.cellB hr9 (Ext.pres eB), RdS.cells hr9, RdS.len hr14 sl36, RdS.idx hr14 sl36, RdS.cellB hr14 (Ext.pres eB), RdS.cells hr14, RdS.len hr15 sl22, RdS.idx hr15 sl22, R1.intB hr15 (Ext.pres eB), RdS.cells hr15, RdS.len (OS.rd hO) sl23, RdS.idx (OS.rd hO) sl23, RdS.cellN (OS.rd hO), RdS.cells (OS.rd hO), RdS.len (OS.rd hR) sl36, RdS.idx (OS.rd hR) sl36, RdS.cellN (OS.rd hR), RdS.cells (OS.rd hR), RdS.len (OS.rd hE) sl22, RdS.idx (OS.rd hE) sl22, R1.intN (OS.rd hE), RdS.cells (OS.rd hE), wrap_id]
      refine hK _ _ ?_
      clear hK K
      refine den_cond rfl (fun c2 => ?_) (fun c2 => ?_)
      ·try simp only [decide_eq_true_eq, decide_eq_false_iff_not, beq_iff_eq, beq_eq_false_iff_ne, bne_iff_ne, ne_eq, Bool.not_eq_true', Bool.not_eq_false', Bool.and_eq_true, Bool.or_eq_true, bne_eq_false_iff_eq] at c2
       refine den_skip ?_
       refine den_seq ?_
       refine den_block ?_
       have hxf := hri.2.2.1.at (k := m) (by omega)
       have hxg := hri.2.2.2.at (k := m) (by omega)
       have hky := mul42 hk hxg hp.2
       refine den_draw TTok mixed [27] [(0, true), (1, true), (2, true), (3, true), (4, true), (5, true), (6, true), (7, true), (8, true), (9, true), (10, true), (11, true), (12, true), (13, true), (14, true), (15, true), (16, true), (17, true), (18, true), (19, true), (20, true), (21, true), (22, true), (23, true), (24, true), (25, false), (26, false), (27, false), (28, true)] (by kernel_rfl) ?_
       intro K hK
       have hr16 := RdS.rowN rf n (by omega)
       have hlhr16 := RdS.le hr16
       have hr17 := RdS.rowN hr16 i (by omega)
       have hlhr17 := RdS.le hr17
       have hr18 := RdS.rowN rg n (by omega)
       have hlhr18 := RdS.le hr18
       have hr19 := RdS.rowN hr18 i (by omega)
       have hlhr19 := RdS.le hr19
       simp -implicitDefEqProofs (disch := first | decide | assumption | omega) only [go_sem, ld36, ld22, ld2, RdS.len rf sl23, RdS.idx rf sl23, RdS.cellB rf (Ext.pres eB), RdS.cells rf, RdS.len rg sl23, RdS.idx rg sl23, RdS.cellB rg (Ext.pres eB), RdS.cells rg, RdS.len hr9 sl36, RdS.idx hr9 sl36, RdS.cellB hr9 (Ext.pres eB), RdS.cells hr9, RdS.len hr14 sl36, RdS.idx hr14 sl36, RdS.cellB hr14 (Ext.pres eB), RdS.cells hr14, RdS.len hr15 sl22, RdS.idx hr15 sl22, R1.intB hr15 (Ext.pres eB), RdS.cells hr15, RdS.len hr16 sl36, RdS.idx hr16 sl36, RdS.cellB hr16 (Ext.pres eB), RdS.cells hr16, RdS.len hr17 sl22, RdS.idx hr17 sl22, R1.intB hr17 (Ext.pres eB), RdS.cells hr17, RdS.len hr18 sl36, RdS.idx hr18 sl36, RdS.cellB hr18 (Ext.pres eB), RdS.cells hr18, RdS.len hr19 sl22, RdS.idx hr19 sl22, R1.intB hr19 (Ext.pres eB), RdS.cells hr19, RdS.len (OS.rd hO) sl23, RdS.idx (OS.rd hO) sl23, RdS.cellN (OS.rd hO), RdS.cells (OS.rd hO), RdS.len (OS.rd hR) sl36, RdS.idx (OS.rd hR) sl36, RdS.cellN (OS.rd hR), RdS.cells (OS.rd hR), RdS.len (OS.rd hE) sl22, RdS.idx (OS.rd hE) sl22, R1.intN (OS.rd hE), RdS.cells (OS.rd hE), wrap_id]
       try simp -implicitDefEqProofs (disch := first | decide | assumption | omega) only [go_sem, RdS.len rf sl23, RdS.idx rf sl23, RdS.cellB rf (Ext.pres eB), RdS.cells rf, RdS.len rg sl23, RdS.idx rg sl23, RdS.cellB rg (Ext.pres eB), RdS.cells rg, RdS.len hr9 sl36, RdS.idx hr9 sl36, RdS.cellB hr9 (Ext.pres eB), RdS.cells hr9, RdS.len hr14 sl36, RdS.idx hr14 sl36, RdS.cellB hr14 (Ext.pres eB), RdS.cells hr14, RdS.len hr15 sl22, RdS.idx hr15 sl22, R1.intB hr15 (Ext.pres eB), RdS.cells hr15, RdS.len hr16 sl36, RdS.idx hr16 sl36, RdS.cellB hr16 (Ext.pres eB), RdS.cells hr16, RdS.len hr17 sl22, RdS.idx hr17 sl22, R1.intB hr17 (Ext.pres eB), RdS.cells hr17, RdS.len hr18 sl36, RdS.idx hr18 sl36, RdS.cellB hr18 (Ext.pres eB), RdS.cells hr18, RdS.len hr19 sl22, RdS.idx hr19 sl22, R1.intB hr19 (Ext.pres eB), RdS.cells hr19, RdS.len (OS.rd hO) sl23, RdS.idx (OS.rd hO) sl23, RdS.cellN (OS.rd hO), RdS.cells (OS.rd hO), RdS.len (OS.rd hR) sl36, RdS.idx (OS.rd hR) sl36, RdS.cellN (OS.rd hR), RdS.cells (OS.rd hR), RdS.len (OS.rd hE) sl22, RdS.idx (OS.rd hE) sl22, R1.intN (OS.rd hE), RdS.cells (OS.rd hE), wrap_id]
       refine CallA.mono (sMod_ok  p (((((f).getD n default).getD i default).getD m 0) + (k * ((((g).getD n default).getD i default).getD m 0))) _  (by omega) (by omega)) ?_
       intro v_ h13_25
       rintro ⟨rfl, e13_25⟩
       replace hO := OS.ext hO e13_25
       replace hR := OS.ext hR e13_25
       replace hE := OS.ext hE e13_25
       have := Ext.size e13_25
       replace eB := Ext.trans eB e13_25
       replace cL2 := Chg.stepE cL2 e13_25
       replace cL6 := Chg.stepE cL6 e13_25
       replace cL11 := Chg.stepE cL11 e13_25
       try simp (disch := decide) only [outv_some, outv_none, put_puts]
       refine plK_pres (Ext.pres e13_25) ?_
       try simp -implicitDefEqProofs (disch := first | decide | assumption | omega) only [go_sem, RdS.len rf sl23, RdS.idx rf sl23, RdS.cellB rf (Ext.pres eB), RdS.cells rf, RdS.len rg sl23, RdS.idx rg sl23, RdS.cellB rg (Ext.pres eB), RdS.cells rg, RdS.len hr9 sl36, RdS.idx hr9 sl36, RdS.cellB hr9 (Ext.pres eB), RdS.cells hr9, RdS.len hr14 sl36, RdS.idx hr14 sl36, RdS.cellB hr14 (Ext.pres eB), RdS.cells hr14, RdS.len hr15 sl22, RdS.idx hr15 sl22, R1.intB hr15 (Ext.pres eB), RdS.cells hr15, RdS.len hr16 sl36, RdS.idx hr16 sl36, RdS.cellB hr16 (Ext.pres eB), RdS.cells hr16, RdS.len hr17 sl22, RdS.idx hr17 sl22, R1.intB hr17 (Ext.pres eB), RdS.cells hr17, RdS.len hr18 sl36, RdS.idx hr18 sl36, RdS.cellB hr18 (Ext.pres eB), RdS.cells hr18, RdS.len hr19 sl22, RdS.idx hr19 sl22, R1.intB hr19 (Ext.pres eB), RdS.cells hr19, RdS.len (OS.rd hO) sl23, RdS.idx (OS.rd hO) sl23, RdS.cellN (OS.rd hO), RdS.cells (OS.rd hO), RdS.len (OS.rd hR) sl36, RdS.idx (OS.rd hR) sl36, RdS.cellN (OS.rd hR), RdS.cells (OS.rd hR), RdS.len (OS.rd hE) sl22, RdS.idx (OS.rd hE) sl22, R1.intN (OS.rd hE), RdS.cells (OS.rd hE), wrap_id]
       refine op_bs1 sz22 rfl rfl ?_
       try simp (disch := decide) only [outv_some, outv_none, put_puts]
       refine plK_pres (Ext.pres (Ext.push _ _)) ?_
       try simp -implicitDefEqProofs (disch := first | decide | assumption | omega) only [go_sem, RdS.len rf sl23, RdS.idx rf sl23, RdS.cellB rf (Ext.pres eB), RdS.cells rf, RdS.len rg sl23, RdS.idx rg sl23, RdS.cellB rg (Ext.pres eB), RdS.cells rg, RdS.len hr9 sl36, RdS.idx hr9 sl36, RdS.cellB hr9 (Ext.pres eB), RdS.cells hr9, RdS.len hr14 sl36, RdS.idx hr14 sl36, RdS.cellB hr14 (Ext.pres eB), RdS.cells hr14, RdS.len hr15 sl22, RdS.idx hr15 sl22, R1.intB hr15 (Ext.pres eB), RdS.cells hr15, RdS.len hr16 sl36, RdS.idx hr16 sl36, RdS.cellB hr16 (Ext.pres eB), RdS.cells hr16, RdS.len hr17 sl22, RdS.idx hr17 sl22, R1.intB hr17 (Ext.pres eB), RdS.cells hr17, RdS.len hr18 sl36, RdS.idx hr18 sl36, RdS.cellB hr18 (Ext.pres eB), RdS.cells hr18, RdS.len hr19 sl22, RdS.idx hr19 sl22, R1.intB hr19 (Ext.pres eB), RdS.cells hr19, RdS.len (OS.rd hO) sl23, RdS.idx (OS.rd hO) sl23, RdS.cellN (OS.rd hO), RdS.cells (OS.rd hO), RdS.len (OS.rd hR) sl36, RdS.idx (OS.rd hR) sl36, RdS.cellN (OS.rd hR), RdS.cells (OS.rd hR), RdS.len (OS.rd hE) sl22, RdS.idx (OS.rd hE) sl22, R1.intN (OS.rd hE), RdS.cells (OS.rd hE), wrap_id]
       refine op_append1 sz22 hE hfhE.nodup ⟨rfl, rfl⟩ List.nodup_nil (Apart.nil _) (by first | omega | (simp; omega)) rfl rfl ?_
       intro v13_27 h13_27 fp13_27 ho13_27 hn13_27 hs13_27 c13_27
       have hsz13_27 := c13_27.size
       have hfho13_27 : Fresh h8.size fp13_27 := Fresh.appd hfhE (Fresh.nil h13_25.size) (by omega) (by omega) hn13_27 hs13_27
       have sb20 : Sub [h8.size] h9_0.size fp13_27 := Sub.grow sbhE Sub.nil (by omega) hs13_27
       replace hO := OS.chg hO c13_27 (apart_lt hlhO hfhE (by omega))
       replace hR := OS.chg hR c13_27 (apart_lt hlhR hfhE (by omega))
       have := c13_27.size
       replace eB := Ext.then eB c13_27 (ge_of hfhE (by omega))
       replace cL2 := Chg.step cL2 c13_27 (Sub.fresh hfhE (by omega))
       replace cL6 := Chg.step cL6 c13_27 (Sub.fresh hfhE (by omega))
       replace cL11 := Chg.step cL11 c13_27 sbhE
       have hlho13_27 := OS.lt ho13_27
       try simp (disch := decide) only [outv_some, outv_none, put_puts]
       refine plK_last (by decide) ?_
       try simp -implicitDefEqProofs (disch := first | decide | assumption | omega) only [go_sem, RdS.len rf sl23, RdS.idx rf sl23, RdS.cellB rf (Ext.pres eB), RdS.cells rf, RdS.len rg sl23, RdS.idx rg sl23, RdS.cellB rg (Ext.pres eB), RdS.cells rg, RdS.len hr9 sl36, RdS.idx hr9 sl36, RdS.cellB hr9 (Ext.pres eB), RdS.cells hr9, RdS.len hr14 sl36, RdS.idx hr14 sl36, RdS.cellB hr14 (Ext.pres eB), RdS.cells hr14, RdS.len hr15 sl22, RdS.idx hr15 sl22, R1.intB hr15 (Ext.pres eB), RdS.cells hr15, RdS.len hr16 sl36, RdS.idx hr16 sl36, RdS.cellB hr16 (Ext.pres eB), RdS.cells hr16, RdS.len hr17 sl22, RdS.idx hr17 sl22, R1.intB hr17 (Ext.pres eB), RdS.cells hr17, RdS.len hr18 sl36, RdS.idx hr18 sl36, RdS.cellB hr18 (Ext.pres eB), RdS.cells hr18, RdS.len hr19 sl22, RdS.idx hr19 sl22, R1.intB hr19 (Ext.pres eB), RdS.cells hr19, RdS.len (OS.rd hO) sl23, RdS.idx (OS.rd hO) sl23, RdS.cellN (OS.rd hO), RdS.cells (OS.rd hO), RdS.len (OS.rd hR) sl36, RdS.idx (OS.rd hR) sl36, RdS.cellN (OS.rd hR), RdS.cells (OS.rd hR), RdS.len (OS.rd ho13_27) sl22, RdS.idx (OS.rd ho13_27) sl22, R1.intN (OS.rd ho13_27), RdS.cells (OS.rd ho13_27), wrap_id]
       refine hK _ _ ?_
       clear hK K
       refine den_blk ?_
       refine den_region TTok ?_
       intro K hK
       simp -implicitDefEqProofs (disch := first | decide | assumption | omega) only [go_sem, RdS.len rf sl23, RdS.idx rf sl23, RdS.cellB rf (Ext.pres eB), RdS.cells rf, RdS.len rg sl23, RdS.idx rg sl23, RdS.cellB rg (Ext.pres eB), RdS.cells rg, RdS.len hr9 sl36, RdS.idx hr9 sl36, RdS.cellB hr9 (Ext.pres eB), RdS.cells hr9, RdS.len hr14 sl36, RdS.idx hr14 sl36, RdS.cellB hr14 (Ext.pres eB), RdS.cells hr14, RdS.len hr15 sl22, RdS.idx hr15 sl22, R1.intB hr15 (Ext.pres eB), RdS.cells hr15, RdS.len hr16 sl36, RdS.idx hr16 sl36, RdS.cellB hr16 (Ext.pres eB), RdS.cells hr16, RdS.len hr17 sl22, RdS.idx hr17 sl22, R1.intB hr17 (Ext.pres eB), RdS.cells hr17, RdS.len hr18 sl36, RdS.idx hr18 sl36, RdS.cellB hr18 (Ext.pres eB), RdS.cells hr18, RdS.len hr19 sl22, RdS.idx hr19 sl22, R1.intB hr19 (Ext.pres eB), RdS.cells hr19, RdS.len (OS.rd hO) sl23, RdS.idx (OS.rd hO) sl23, RdS.cellN (OS.rd hO), RdS.cells (OS.rd hO), RdS.len (OS.rd hR) sl36, RdS.idx (OS.rd hR) sl36, RdS.cellN (OS.rd hR), RdS.cells (OS.rd hR), RdS.len (OS.rd ho13_27) sl22, RdS.idx (OS.rd ho13_27) sl22, R1.intN (OS.rd ho13_27), RdS.cells (OS.rd ho13_27), wrap_id]
       refine hK _ _ ?_
       clear hK K
       refine den_stop ?_
       rw [range_step (fun q : Nat => (((f.getD n default).getD i default).getD q 0 + k * ((g.getD n default).getD i default).getD q 0) % p)] at ho13_27
       exact ⟨(m + 1, v13_27, fp13_27), by simp [HasL, puts_at], ⟨by first | omega | (dsimp only; omega), ho13_27, hfho13_27, sb20, cL11⟩, by first | omega | (dsimp only; omega)⟩
      ·try simp only [decide_eq_true_eq, decide_eq_false_iff_not, beq_iff_eq, beq_eq_false_iff_ne, bne_iff_ne, ne_eq, Bool.not_eq_true', Bool.not_eq_false', Bool.and_eq_true, Bool.or_eq_true, bne_eq_false_iff_eq] at c2
       refine den_exit ?_
       refine denX_code ?_
       refine denX_stop ?_
       refine denX_hit ?_
       refine den_region TTok ?_
       intro K hK
       simp -implicitDefEqProofs (disch := first | decide | assumption | omega) only [go_sem, RdS.len rf sl23, RdS.idx rf sl23, RdS.cellB rf (Ext.pres eB), RdS.cells rf, RdS.len rg sl23, RdS.idx rg sl23, RdS.cellB rg (Ext.pres eB), RdS.cells rg, RdS.len hr9 sl36, RdS.idx hr9 sl36, RdS.cellB hr9 (Ext.pres eB), RdS.cells hr9, RdS.len hr14 sl36, RdS.idx hr14 sl36, RdS.cellB hr14 (Ext.pres eB), RdS.cells hr14, RdS.len hr15 sl22, RdS.idx hr15 sl22, R1.intB hr15 (Ext.pres eB), RdS.cells hr15, RdS.len (OS.rd hO) sl23, RdS.idx (OS.rd hO) sl23, RdS.cellN (OS.rd hO), RdS.cells (OS.rd hO), RdS.len (OS.rd hR) sl36, RdS.idx (OS.rd hR) sl36, RdS.cellN (OS.rd hR), RdS.cells (OS.rd hR), RdS.len (OS.rd hE) sl22, RdS.idx (OS.rd hE) sl22, R1.intN (OS.rd hE), RdS.cells (OS.rd hE), wrap_id]
       refine op_bs1 sz36 rfl (OS.one hE).2 ?_
       try simp -implicitDefEqProofs (disch := first | decide | assumption | omega) only [go_sem, RdS.len rf sl23, RdS.idx rf sl23, RdS.cellB rf (Ext.pres eB), RdS.cells rf, RdS.len rg sl23, RdS.idx rg sl23, RdS.cellB rg (Ext.pres eB), RdS.cells rg, RdS.len hr9 sl36, RdS.idx hr9 sl36, RdS.cellB hr9 (Ext.pres eB), RdS.cells hr9, RdS.len hr14 sl36, RdS.idx hr14 sl36, RdS.cellB hr14 (Ext.pres eB), RdS.cells hr14, RdS.len hr15 sl22, RdS.idx hr15 sl22, R1.intB hr15 (Ext.pres eB), RdS.cells hr15, RdS.len (OS.rd hO) sl23, RdS.idx (OS.rd hO) sl23, RdS.cellN (OS.rd hO), RdS.cells (OS.rd hO), RdS.len (OS.rd hR) sl36, RdS.idx (OS.rd hR) sl36, RdS.cellN (OS.rd hR), RdS.cells (OS.rd hR), RdS.len (OS.rd hE) sl22, RdS.idx (OS.rd hE) sl22, R1.intN (OS.rd hE), RdS.cells (OS.rd hE), wrap_id]
       refine op_append1 sz36 hR hfhR.nodup hE hfhE.nodup (apart_lt hlhR hfhE (by omega)) (by first | omega | (simp; omega)) rfl rfl ?_
       intro v14_3 h14_3 fp14_3 ho14_3 hn14_3 hs14_3 c14_3
       have hsz14_3 := c14_3.size
       have hfho14_3 : Fresh h4.size fp14_3 := Fresh.appd hfhR hfhE (by omega) (by omega) hn14_3 hs14_3
       have sb21 : Sub [h4.size] h5_0.size fp14_3 := Sub.grow sbhR (Sub.fresh hfhE (by omega)) (by omega) hs14_3
       replace hO := OS.chg hO c14_3 (apart_lt hlhO hfhR (by omega))
       have := c14_3.size
       replace eB := Ext.then eB c14_3 (ge_of hfhR (by omega))
       replace cL2 := Chg.step cL2 c14_3 (Sub.fresh hfhR (by omega))
       replace cL6 := Chg.step cL6 c14_3 sbhR
       have hlho14_3 := OS.lt ho14_3
       try simp -implicitDefEqProofs (disch := first | decide | assumption | omega) only [go_sem, RdS.len rf sl23, RdS.idx rf sl23, RdS.cellB rf (Ext.pres eB), RdS.cells rf, RdS.len rg sl23, RdS.idx rg sl23, RdS.cellB rg (Ext.pres eB), RdS.cells rg, RdS.len hr9 sl36, RdS.idx hr9 sl36, RdS.cellB hr9 (Ext.pres eB), RdS.cells hr9, RdS.len hr14 sl36, RdS.idx hr14 sl36, RdS.cellB hr14 (Ext.pres eB), RdS.cells hr14, RdS.len hr15 sl22, RdS.idx hr15 sl22, R1.intB hr15 (Ext.pres eB), RdS.cells hr15, RdS.len (OS.rd hO) sl23, RdS.idx (OS.rd hO) sl23, RdS.cellN (OS.rd hO), RdS.cells (OS.rd hO), RdS.len (OS.rd ho14_3) sl36, RdS.idx (OS.rd ho14_3) sl36, RdS.cellN (OS.rd ho14_3), RdS.cells (OS.rd ho14_3), wrap_id]
       refine hK _ _ ?_
       clear hK K
       refine den_blk ?_
       refine den_region TTok ?_
       intro K hK
       simp -implicitDefEqProofs (disch := first | decide | assumption | omega) only [go_sem, RdS.len rf sl23, RdS.idx rf sl23, RdS.cellB rf (Ext.pres eB), RdS.cells rf, RdS.len rg sl23, RdS.idx rg sl23, RdS.cellB rg (Ext.pres eB), RdS.cells rg, RdS.len hr9 sl36, RdS.idx hr9 sl36, RdS.cellB hr9 (Ext.pres eB), RdS.cells hr9, RdS.len hr14 sl36, RdS.idx hr14 sl36, RdS.cellB hr14 (Ext.pres eB), RdS.cells hr14, RdS.len hr15 sl22, RdS.idx hr15 sl22, R1.intB hr15 (Ext.pres eB), RdS.cells hr15, RdS.len (OS.rd hO) sl23, RdS.idx (OS.rd hO) sl23, RdS.cellN (OS.rd hO), RdS.cells (OS.rd hO), RdS.len (OS.rd ho14_3) sl36, RdS.idx (OS.rd ho14_3) sl36, RdS.cellN (OS.rd ho14_3), RdS.cells (OS.rd ho14_3), wrap_id]
       refine hK _ _ ?_
       clear hK K
       refine den_stop ?_
       rw [show ((List.range m).map fun q : Nat => (((f.getD n default).getD i default).getD q 0 + k * ((g.getD n default).getD i default).getD q 0) % p) = addRow p k ((f.getD n default).getD i default) ((g.getD n default).getD i default) by rw [addRow, show ((f.getD n default).getD i default).length = m by omega], range_step (fun i : Nat => addRow p k ((f.getD n default).getD i default) ((g.getD n default).getD i default))] at ho14_3
       exact ⟨(i + 1, v14_3, fp14_3), by simp [HasL, puts_at], ⟨by first | omega | (dsimp only; omega), ho14_3, hfho14_3, sb21, cL6⟩, by first | omega | (dsimp only; omega)⟩
    ·try simp only [decide_eq_true_eq, decide_eq_false_iff_not, beq_iff_eq, beq_eq_false_iff_ne, bne_iff_ne, ne_eq, Bool.not_eq_true', Bool.not_eq_false', Bool.and_eq_true, Bool.or_eq_true, bne_eq_false_iff_eq] at c1
     refine den_exit ?_
     refine denX_code ?_
     refine denX_stop ?_
     refine denX_hit ?_
     refine den_region TTok ?_
     intro K hK
     simp -implicitDefEqProofs (disch := first | decide | assumption | omega) only [go_sem, RdS.len rf sl23, RdS.idx rf sl23, RdS.cellB rf (Ext.pres eB), RdS.cells rf, RdS.len rg sl23, RdS.idx rg sl23, RdS.cellB rg (Ext.pres eB), RdS.cells rg, RdS.len hr9 sl36, RdS.idx hr9 sl36, RdS.cellB hr9 (Ext.pres eB), RdS.cells hr9, RdS.len (OS.rd hO) sl23, RdS.idx (OS.rd hO) sl23, RdS.cellN (OS.rd hO), RdS.cells (OS.rd hO), RdS.len (OS.rd hR) sl36, RdS.idx (OS.rd hR) sl36, RdS.cellN (OS.rd hR), RdS.cells (OS.rd hR), wrap_id]
     refine op_bs1 sz23 rfl (OS.one hR).2 ?_
     try simp -implicitDefEqProofs (disch := first | decide | assumption | omega) only [go_sem, RdS.len rf sl23, RdS.idx rf sl23, RdS.cellB rf (Ext.pres eB), RdS.cells rf, RdS.len rg sl23, RdS.idx rg sl23, RdS.cellB rg (Ext.pres eB), RdS.cells rg, RdS.len hr9 sl36, RdS.idx hr9 sl36, RdS.cellB hr9 (Ext.pres eB), RdS.cells hr9, RdS.len (OS.rd hO) sl23, RdS.idx (OS.rd hO) sl23, RdS.cellN (OS.rd hO), RdS.cells (OS.rd hO), RdS.len (OS.rd hR) sl36, RdS.idx (OS.rd hR) sl36, RdS.cellN (OS.rd hR), RdS.cells (OS.rd hR), wrap_id]
     refine op_append1 sz23 hO hfhO.nodup hR hfhR.nodup (apart_lt hlhO hfhR (by omega)) (by first | omega | (simp; omega)) rfl rfl ?_
     intro v15_3 h15_3 fp15_3 ho15_3 hn15_3 hs15_3 c15_3
     have hsz15_3 := c15_3.size
     have hfho15_3 : Fresh h.size fp15_3 := Fresh.appd hfhO hfhR (by omega) (by omega) hn15_3 hs15_3
     have sb22 : Sub [h.size] h1_0.size fp15_3 := Sub.grow sbhO (Sub.fresh hfhR (by omega)) (by omega) hs15_3
     have := c15_3.size
     replace eB := Ext.then eB c15_3 (ge_of hfhO (by omega))
     replace cL2 := Chg.step cL2 c15_3 sbhO
     have hlho15_3 := OS.lt ho15_3
     try simp -implicitDefEqProofs (disch := first | decide | assumption | omega) only [go_sem, RdS.len rf sl23, RdS.idx rf sl23, RdS.cellB rf (Ext.pres eB), RdS.cells rf, RdS.len rg sl23, RdS.idx rg sl23, RdS.cellB rg (Ext.pres eB), RdS.cells rg, RdS.len hr9 sl36, RdS.idx hr9 sl36, RdS.cellB hr9 (Ext.pres eB), RdS.cells hr9, RdS.len (OS.rd ho15_3) sl23, RdS.idx (OS.rd ho15_3) sl23, RdS.cellN (OS.rd ho15_3), RdS.cells (OS.rd ho15_3), wrap_id]
     refine hK _ _ ?_
     clear hK K
     refine den_blk ?_
     refine den_region TTok ?_
     intro K hK
     simp -implicitDefEqProofs (disch := first | decide | assumption | omega) only [go_sem, RdS.len rf sl23, RdS.idx rf sl23, RdS.cellB rf (Ext.pres eB), RdS.cells rf, RdS.len rg sl23, RdS.idx rg sl23, RdS.cellB rg (Ext.pres eB), RdS.cells rg, RdS.len hr9 sl36, RdS.idx hr9 sl36, RdS.cellB hr9 (Ext.pres eB), RdS.cells hr9, RdS.len (OS.rd ho15_3) sl23, RdS.idx (OS.rd ho15_3) sl23, RdS.cellN (OS.rd ho15_3), RdS.cells (OS.rd ho15_3), wrap_id]
     refine hK _ _ ?_
     clear hK K
     refine den_stop ?_
     rw [show ((List.range i).map fun i : Nat => addRow p k ((f.getD n default).getD i default) ((g.getD n default).getD i default)) = addRows p k (f.getD n default) (g.getD n default) by rw [addRows, show (f.getD n default).length = i by omega], range_step (fun n : Nat => addRows p k (f.getD n default) (g.getD n default))] at ho15_3
     exact ⟨(n + 1, v15_3, fp15_3), by simp [HasL, puts_at], ⟨by first | omega | (dsimp only; omega), ho15_3, hfho15_3, sb22, cL2⟩, by first | omega | (dsimp only; omega)⟩
  ·try simp only [decide_eq_true_eq, decide_eq_false_iff_not, beq_iff_eq, beq_eq_false_iff_ne, bne_iff_ne, ne_eq, Bool.not_eq_true', Bool.not_eq_false', Bool.and_eq_true, Bool.or_eq_true, bne_eq_false_iff_eq] at c0
   refine den_exit ?_
   refine denX_code ?_
   refine denX_stop ?_
   refine denX_hit ?_
   refine den_seq ?_
   refine den_region TTok ?_
   intro K hK
   simp -implicitDefEqProofs (disch := first | decide | assumption | omega) only [go_sem, RdS.len rf sl23, RdS.idx rf sl23, RdS.cellB rf (Ext.pres eB), RdS.cells rf, RdS.len rg sl23, RdS.idx rg sl23, RdS.cellB rg (Ext.pres eB), RdS.cells rg, RdS.len (OS.rd hO) sl23, RdS.idx (OS.rd hO) sl23, RdS.cellN (OS.rd hO), RdS.cells (OS.rd hO), wrap_id]
   refine hK _ _ ?_
   clear hK K
   refine den_ret ?_
   simp (disch := decide) only [resP_1, puts_same, puts_ne]
   rw [show n = f.length by omega] at hO
   exact ⟨_, _, rfl, hO, hfhO.mono (by omega), eB⟩
end Go.Proofs.Ytbplnadngahgaaa

namespace Go.Proofs.Ytbplnadngahgaaa
open Go
noncomputable def chnC (X Y : Cx) (L : List (List (List (List Int)))) : Int := cadd (famC X Y L) 5 (L.any fun f => !chnP X Y f)
theorem chnC_0 {X Y : Cx} {L : List (List (List (List Int)))} (h : chnC X Y L = 0) : famC X Y L = 0 ∧ ∀ f ∈ L, IsChn X Y f := by
 obtain ⟨h1, h2⟩ := (cadd_0 (by decide)).1 h
 refine ⟨h1, fun f hf => ?_⟩
 rw [List.any_eq_false] at h2
 have := h2 f hf
 simp only [Bool.not_eq_true', Bool.not_eq_false] at this
 exact pdec_t.1 this

set_option maxRecDepth 100000 in
theorem chnC1_ok (X Y : Cx) (v vdX vmX vdY vmY : Value) (f : List (List (List Int))) (b c : Nat) (h0 h : Heap) (hdX : R1 h0 vdX X.dims) (hmX : R3 h0 vmX X.maps) (hdY : R1 h0 vdY Y.dims) (hmY : R3 h0 vmY Y.maps) (eB : Ext h0 h) (hv : R3 h v f) (hb : BoxAt h b #[.int .i64 X.p, vdX, vmX] 30) (hc : BoxAt h c #[.int .i64 Y.p, vdY, vmY] 30) (hX : IsC X) (hY : IsC Y) (hF : IsFam X Y f 0) (hp : X.p = Y.p) (hl : X.dims.length = Y.dims.length) : CallA Try.prog 101 #[v, .pointer (some ⟨b, 0, none⟩), .pointer (some ⟨c, 0, none⟩)] h fun v' h' => v' = .bool (!chnP X Y f) ∧ Ext h h' := by
 refine callA_intro TTok (args := [_, _, _]) Try.func101 (by kernel_rfl) rfl 10 rfl (by simp) [.tmp 4] rfl ?_
 simp only [idxs, Nat.reduceAdd]
 refine den_seq ?_
 refine den_region TTok ?_
 intro K hK
 simp -implicitDefEqProofs (disch := first | decide | assumption | omega) only [go_sem, RdS.len hv sl23, RdS.idx hv sl23, RdS.cellB hv (HPres.refl _), RdS.cells hv, BoxAt.cell hb, BoxAt.cell hc]
 refine hK _ _ ?_
 clear hK K
 refine den_seq ?_
 refine den_region TTok ?_
 intro K hK
 simp -implicitDefEqProofs (disch := first | decide | assumption | omega) only [go_sem, ld30, RdS.len hv sl23, RdS.idx hv sl23, RdS.cellB hv (HPres.refl _), RdS.cells hv, BoxAt.cell hb, BoxAt.cell hc]
 try simp -implicitDefEqProofs (disch := first | decide | assumption | omega) only [go_sem, RdS.len hv sl23, RdS.idx hv sl23, RdS.cellB hv (HPres.refl _), RdS.cells hv, BoxAt.cell hb, BoxAt.cell hc]
 refine CallA.mono (iChn_ok _ _ _ X Y f _ ⟨_, _, rfl, RdS.pres hdX (Ext.pres eB), RdS.pres hmX (Ext.pres eB)⟩ ⟨_, _, rfl, RdS.pres hdY (Ext.pres eB), RdS.pres hmY (Ext.pres eB)⟩ hv hX hY hF hp hl) ?_
 intro v_ h1_3
 rintro ⟨rfl, e1⟩
 try simp -implicitDefEqProofs (disch := first | decide | assumption | omega) only [go_sem, RdS.len hv sl23, RdS.idx hv sl23, RdS.cellB hv (HPres.refl _), RdS.cells hv, BoxAt.cell hb, BoxAt.cell hc]
 refine hK _ _ ?_
 clear hK K
 refine den_ret ?_
 simp (disch := decide) only [resP_1, puts_same, puts_ne]
 exact ⟨by first | rfl | trivial, e1⟩

set_option maxRecDepth 100000 in
theorem iChnC_ok (vX vY vL : Value) (X : Cx) (Y : Cx) (L : List (List (List (List Int)))) (h : Heap) (rX : RC h vX X) (rY : RC h vY Y) (rL : R4 h vL L)  : CallA Try.prog 60 #[vX, vY, vL] h fun v' h' => v' = .int .i64 (chnC X Y L) ∧ Ext h h' := by
 obtain ⟨vdX, vmX, rfl, hdX, hmX⟩ := rX
 have hledX := RdS.le hdX
 have hlemX := RdS.le hmX
 obtain ⟨vdY, vmY, rfl, hdY, hmY⟩ := rY
 have hledY := RdS.le hdY
 have hlemY := RdS.le hmY
 have hleL := RdS.le rL
 refine callA_intro TTok (args := [_, _, _]) Try.func60 (by kernel_rfl) rfl 20 rfl (by simp) [.tmp 6] rfl ?_
 simp only [idxs, Nat.reduceAdd]
 refine den_seq ?_
 refine den_region TTok ?_
 intro K hK
 simp -implicitDefEqProofs (disch := first | decide | assumption | omega) only [go_sem, RdS.len hdX sl22, RdS.idx hdX sl22, R1.intB hdX (HPres.refl _), RdS.cells hdX, RdS.len hmX sl23, RdS.idx hmX sl23, RdS.cellB hmX (HPres.refl _), RdS.cells hmX, RdS.len hdY sl22, RdS.idx hdY sl22, R1.intB hdY (HPres.refl _), RdS.cells hdY, RdS.len hmY sl23, RdS.idx hmY sl23, RdS.cellB hmY (HPres.refl _), RdS.cells hmY, RdS.len rL sl88, RdS.idx rL sl88, RdS.cellB rL (HPres.refl _), RdS.cells rL, wrap_id]
 refine op_box (cs := #[.int .i64 (X.p), vdX, vmX]) rfl ?_
 intro h0_0 e0_0 hb0_0 z0_0
 have := Ext.size e0_0
 have eB := e0_0
 have hfhb0_0 : Fresh h.size [h.size] := Fresh.one _
 have hlhb0_0 := one_lt (show h.size < h0_0.size by omega)
 try simp -implicitDefEqProofs (disch := first | decide | assumption | omega) only [go_sem, RdS.len hdX sl22, RdS.idx hdX sl22, R1.intB hdX (Ext.pres eB), RdS.cells hdX, RdS.len hmX sl23, RdS.idx hmX sl23, RdS.cellB hmX (Ext.pres eB), RdS.cells hmX, RdS.len hdY sl22, RdS.idx hdY sl22, R1.intB hdY (Ext.pres eB), RdS.cells hdY, RdS.len hmY sl23, RdS.idx hmY sl23, RdS.cellB hmY (Ext.pres eB), RdS.cells hmY, RdS.len rL sl88, RdS.idx rL sl88, RdS.cellB rL (Ext.pres eB), RdS.cells rL, BoxAt.cell hb0_0, wrap_id]
 refine op_box (cs := #[.int .i64 (Y.p), vdY, vmY]) rfl ?_
 intro h0_1 e0_1 hb0_1 z0_1
 replace hb0_0 := BoxAt.ext hb0_0 e0_1
 have := Ext.size e0_1
 replace eB := Ext.trans eB e0_1
 have hfhb0_1 : Fresh h0_0.size [h0_0.size] := Fresh.one _
 have hlhb0_1 := one_lt (show h0_0.size < h0_1.size by omega)
 try simp -implicitDefEqProofs (disch := first | decide | assumption | omega) only [go_sem, RdS.len hdX sl22, RdS.idx hdX sl22, R1.intB hdX (Ext.pres eB), RdS.cells hdX, RdS.len hmX sl23, RdS.idx hmX sl23, RdS.cellB hmX (Ext.pres eB), RdS.cells hmX, RdS.len hdY sl22, RdS.idx hdY sl22, R1.intB hdY (Ext.pres eB), RdS.cells hdY, RdS.len hmY sl23, RdS.idx hmY sl23, RdS.cellB hmY (Ext.pres eB), RdS.cells hmY, RdS.len rL sl88, RdS.idx rL sl88, RdS.cellB rL (Ext.pres eB), RdS.cells rL, BoxAt.cell hb0_0, BoxAt.cell hb0_1, wrap_id]
 refine hK _ _ ?_
 clear hK K
 refine den_seq ?_
 refine den_region TTok ?_
 intro K hK
 simp -implicitDefEqProofs (disch := first | decide | assumption | omega) only [go_sem, ld30, RdS.len hdX sl22, RdS.idx hdX sl22, R1.intB hdX (Ext.pres eB), RdS.cells hdX, RdS.len hmX sl23, RdS.idx hmX sl23, RdS.cellB hmX (Ext.pres eB), RdS.cells hmX, RdS.len hdY sl22, RdS.idx hdY sl22, R1.intB hdY (Ext.pres eB), RdS.cells hdY, RdS.len hmY sl23, RdS.idx hmY sl23, RdS.cellB hmY (Ext.pres eB), RdS.cells hmY, RdS.len rL sl88, RdS.idx rL sl88, RdS.cellB rL (Ext.pres eB), RdS.cells rL, BoxAt.cell hb0_0, BoxAt.cell hb0_1, wrap_id]
 try simp -implicitDefEqProofs (disch := first | decide | assumption | omega) only [go_sem, RdS.len hdX sl22, RdS.idx hdX sl22, R1.intB hdX (Ext.pres eB), RdS.cells hdX, RdS.len hmX sl23, RdS.idx hmX sl23, RdS.cellB hmX (Ext.pres eB), RdS.cells hmX, RdS.len hdY sl22, RdS.idx hdY sl22, R1.intB hdY (Ext.pres eB), RdS.cells hdY, RdS.len hmY sl23, RdS.idx hmY sl23, RdS.cellB hmY (Ext.pres eB), RdS.cells hmY, RdS.len rL sl88, RdS.idx rL sl88, RdS.cellB rL (Ext.pres eB), RdS.cells rL, BoxAt.cell hb0_0, BoxAt.cell hb0_1, wrap_id]
 refine CallA.mono (iFamC_ok _ _ _ X Y L _ ⟨_, _, rfl, (RdS.pres hdX (Ext.pres eB)), (RdS.pres hmX (Ext.pres eB))⟩ ⟨_, _, rfl, (RdS.pres hdY (Ext.pres eB)), (RdS.pres hmY (Ext.pres eB))⟩ (RdS.pres rL (Ext.pres eB)) ) ?_
 intro v_ h1_3
 rintro ⟨rfl, e1_3⟩
 replace hb0_0 := BoxAt.ext hb0_0 e1_3
 replace hb0_1 := BoxAt.ext hb0_1 e1_3
 have := Ext.size e1_3
 replace eB := Ext.trans eB e1_3
 try simp -implicitDefEqProofs (disch := first | decide | assumption | omega) only [go_sem, RdS.len hdX sl22, RdS.idx hdX sl22, R1.intB hdX (Ext.pres eB), RdS.cells hdX, RdS.len hmX sl23, RdS.idx hmX sl23, RdS.cellB hmX (Ext.pres eB), RdS.cells hmX, RdS.len hdY sl22, RdS.idx hdY sl22, R1.intB hdY (Ext.pres eB), RdS.cells hdY, RdS.len hmY sl23, RdS.idx hmY sl23, RdS.cellB hmY (Ext.pres eB), RdS.cells hmY, RdS.len rL sl88, RdS.idx rL sl88, RdS.cellB rL (Ext.pres eB), RdS.cells rL, BoxAt.cell hb0_0, BoxAt.cell hb0_1, wrap_id]
 refine hK _ _ ?_
 clear hK K
 refine den_seq ?_
 refine den_seq ?_
 refine den_merge [(18, .bool ((((famC X Y L) == (0 : Int)) && (L.any fun f => !chnP X Y f))))] [7] (fun H => Ext h1_3 H) ?_ ?_
  -- a way
 ·refine den_region TTok ?_
  intro K hK
  simp -implicitDefEqProofs (disch := first | decide | assumption | (simp (disch := decide) only [slotOf_zero, slotOf_succ, Option.map_some, puts_same, puts_ne, gv_bool, gv_undef, tt, tf, ft, ff, eq_self, if_true, if_false, Bool.false_eq_true, Bool.not_true, Bool.not_false]; done) | omega) only [go_sem, RdS.len hdX sl22, RdS.idx hdX sl22, R1.intB hdX (Ext.pres eB), RdS.cells hdX, RdS.len hmX sl23, RdS.idx hmX sl23, RdS.cellB hmX (Ext.pres eB), RdS.cells hmX, RdS.len hdY sl22, RdS.idx hdY sl22, R1.intB hdY (Ext.pres eB), RdS.cells hdY, RdS.len hmY sl23, RdS.idx hmY sl23, RdS.cellB hmY (Ext.pres eB), RdS.cells hmY, RdS.len rL sl88, RdS.idx rL sl88, RdS.cellB rL (Ext.pres eB), RdS.cells rL, BoxAt.cell hb0_0, BoxAt.cell hb0_1, wrap_id]
  refine opsP_T (by simp (disch := decide) only [slotOf_zero, slotOf_succ, Option.map_some, puts_same, puts_ne, gv_bool, gv_undef, tt, tf, ft, ff, eq_self, if_true, if_false, Bool.false_eq_true, Bool.not_true, Bool.not_false]; rfl) (fun g1 => ?_) (fun g1 => ?_)
  ·obtain ⟨h0_, hL_⟩ := famC_0 (b0 g1)
   obtain ⟨hX, hY, hpp, hll⟩ := pairC_0 h0_
   try simp -implicitDefEqProofs (disch := first | decide | assumption | (simp (disch := decide) only [slotOf_zero, slotOf_succ, Option.map_some, puts_same, puts_ne, gv_bool, gv_undef, tt, tf, ft, ff, eq_self, if_true, if_false, Bool.false_eq_true, Bool.not_true, Bool.not_false, g1]; done) | omega) only [go_sem, RdS.len hdX sl22, RdS.idx hdX sl22, R1.intB hdX (Ext.pres eB), RdS.cells hdX, RdS.len hmX sl23, RdS.idx hmX sl23, RdS.cellB hmX (Ext.pres eB), RdS.cells hmX, RdS.len hdY sl22, RdS.idx hdY sl22, R1.intB hdY (Ext.pres eB), RdS.cells hdY, RdS.len hmY sl23, RdS.idx hmY sl23, RdS.cellB hmY (Ext.pres eB), RdS.cells hmY, RdS.len rL sl88, RdS.idx rL sl88, RdS.cellB rL (Ext.pres eB), RdS.cells rL, BoxAt.cell hb0_0, BoxAt.cell hb0_1, wrap_id, g1, eq_self, if_true, if_false, Bool.false_eq_true]
   try simp -implicitDefEqProofs (disch := first | decide | assumption | omega) only [go_sem, RdS.len hdX sl22, RdS.idx hdX sl22, R1.intB hdX (Ext.pres eB), RdS.cells hdX, RdS.len hmX sl23, RdS.idx hmX sl23, RdS.cellB hmX (Ext.pres eB), RdS.cells hmX, RdS.len hdY sl22, RdS.idx hdY sl22, R1.intB hdY (Ext.pres eB), RdS.cells hdY, RdS.len hmY sl23, RdS.idx hmY sl23, RdS.cellB hmY (Ext.pres eB), RdS.cells hmY, RdS.len rL sl88, RdS.idx rL sl88, RdS.cellB rL (Ext.pres eB), RdS.cells rL, BoxAt.cell hb0_0, BoxAt.cell hb0_1, wrap_id]
   refine CallA.mono (has4_ok _ L _ _ (fun f => !chnP X Y f) _ (RdS.pres rL (Ext.pres eB)) (fun j hj h' e => by
  simp only [List.append_toArray, List.cons_append, List.nil_append]
  exact chnC1_ok X Y _ _ _ _ _ _ _ _ _ _ hdX hmX hdY hmY (Ext.trans eB e) ((RdS.rowN (RdS.pres rL (Ext.pres eB)) j hj).pres (Ext.pres e)) (BoxAt.ext hb0_0 e) (BoxAt.ext hb0_1 e) hX hY (hL_ _ (getD_mem hj)) hpp hll)) ?_
   intro v_ h2_5
   rintro ⟨rfl, e2_5⟩
   replace hb0_0 := BoxAt.ext hb0_0 e2_5
   replace hb0_1 := BoxAt.ext hb0_1 e2_5
   have := Ext.size e2_5
   replace eB := Ext.trans eB e2_5
   try simp -implicitDefEqProofs (disch := first | decide | assumption | (simp (disch := decide) only [slotOf_zero, slotOf_succ, Option.map_some, puts_same, puts_ne, gv_bool, gv_undef, tt, tf, ft, ff, eq_self, if_true, if_false, Bool.false_eq_true, Bool.not_true, Bool.not_false, g1]; done) | omega) only [go_sem, RdS.len hdX sl22, RdS.idx hdX sl22, R1.intB hdX (Ext.pres eB), RdS.cells hdX, RdS.len hmX sl23, RdS.idx hmX sl23, RdS.cellB hmX (Ext.pres eB), RdS.cells hmX, RdS.len hdY sl22, RdS.idx hdY sl22, R1.intB hdY (Ext.pres eB), RdS.cells hdY, RdS.len hmY sl23, RdS.idx hmY sl23, RdS.cellB hmY (Ext.pres eB), RdS.cells hmY, RdS.len rL sl88, RdS.idx rL sl88, RdS.cellB rL (Ext.pres eB), RdS.cells rL, BoxAt.cell hb0_0, BoxAt.cell hb0_1, wrap_id, g1, eq_self, if_true, if_false, Bool.false_eq_true]
   refine hK _ _ ?_
   clear hK K
   refine den_stop ?_
   refine ⟨?_, e2_5⟩
   first | (simp (disch := decide) only [go_sem, g1, eq_self, Bool.true_and, Bool.and_true, Bool.false_and, Bool.and_false, Bool.true_or, Bool.or_true, Bool.false_or, Bool.or_false, if_true, if_false, Bool.false_eq_true]; done) | simp [HasL, sel, puts_at, g1]
  ·try simp -implicitDefEqProofs (disch := first | decide | assumption | (simp (disch := decide) only [slotOf_zero, slotOf_succ, Option.map_some, puts_same, puts_ne, gv_bool, gv_undef, tt, tf, ft, ff, eq_self, if_true, if_false, Bool.false_eq_true, Bool.not_true, Bool.not_false, g1]; done) | omega) only [go_sem, RdS.len hdX sl22, RdS.idx hdX sl22, R1.intB hdX (Ext.pres eB), RdS.cells hdX, RdS.len hmX sl23, RdS.idx hmX sl23, RdS.cellB hmX (Ext.pres eB), RdS.cells hmX, RdS.len hdY sl22, RdS.idx hdY sl22, R1.intB hdY (Ext.pres eB), RdS.cells hdY, RdS.len hmY sl23, RdS.idx hmY sl23, RdS.cellB hmY (Ext.pres eB), RdS.cells hmY, RdS.len rL sl88, RdS.idx rL sl88, RdS.cellB rL (Ext.pres eB), RdS.cells rL, BoxAt.cell hb0_0, BoxAt.cell hb0_1, wrap_id, g1, eq_self, if_true, if_false, Bool.false_eq_true]
   refine hK _ _ ?_
   clear hK K
   refine den_stop ?_
   refine ⟨?_, Ext.refl _⟩
   first | (simp (disch := decide) only [go_sem, g1, eq_self, Bool.true_and, Bool.and_true, Bool.false_and, Bool.and_false, Bool.true_or, Bool.or_true, Bool.false_or, Bool.or_false, if_true, if_false, Bool.false_eq_true]; done) | simp [HasL, sel, puts_at, g1]
 intro en2 h3 e4
 replace hb0_0 := BoxAt.ext hb0_0 e4
 replace hb0_1 := BoxAt.ext hb0_1 e4
 have := Ext.size e4
 replace eB := Ext.trans eB e4
 simp (disch := decide) only [go_sem]
 refine den_mergeH [(7, .int .i64 ((cadd (famC X Y L) (5 : Int) (L.any fun f => !chnP X Y f))))] [] ?_ ?_
 ·refine den_cond rfl (fun c0 => ?_) (fun c0 => ?_)
  ·refine den_region TTok ?_
   intro K hK
   simp -implicitDefEqProofs (disch := first | decide | assumption | omega) only [go_sem, RdS.len hdX sl22, RdS.idx hdX sl22, R1.intB hdX (Ext.pres eB), RdS.cells hdX, RdS.len hmX sl23, RdS.idx hmX sl23, RdS.cellB hmX (Ext.pres eB), RdS.cells hmX, RdS.len hdY sl22, RdS.idx hdY sl22, R1.intB hdY (Ext.pres eB), RdS.cells hdY, RdS.len hmY sl23, RdS.idx hmY sl23, RdS.cellB hmY (Ext.pres eB), RdS.cells hmY, RdS.len rL sl88, RdS.idx rL sl88, RdS.cellB rL (Ext.pres eB), RdS.cells rL, wrap_id]
   refine hK _ _ ?_
   clear hK K
   refine den_stop ?_
   refine ⟨?_, rfl⟩; simp (disch := decide) only [go_sem, c0, caddT c0, eq_self, if_true, if_false, Bool.false_eq_true, reduceCtorEq]
  ·refine den_skip ?_
   refine den_stop ?_
   refine ⟨?_, rfl⟩; simp (disch := decide) only [go_sem, c0, caddF c0, eq_self, if_true, if_false, Bool.false_eq_true, reduceCtorEq]
 intro en5
 simp (disch := decide) only [go_sem]
 refine den_seq ?_
 refine den_region TTok ?_
 intro K hK
 simp -implicitDefEqProofs (disch := first | decide | assumption | omega) only [go_sem, RdS.len hdX sl22, RdS.idx hdX sl22, R1.intB hdX (Ext.pres eB), RdS.cells hdX, RdS.len hmX sl23, RdS.idx hmX sl23, RdS.cellB hmX (Ext.pres eB), RdS.cells hmX, RdS.len hdY sl22, RdS.idx hdY sl22, R1.intB hdY (Ext.pres eB), RdS.cells hdY, RdS.len hmY sl23, RdS.idx hmY sl23, RdS.cellB hmY (Ext.pres eB), RdS.cells hmY, RdS.len rL sl88, RdS.idx rL sl88, RdS.cellB rL (Ext.pres eB), RdS.cells rL, wrap_id]
 refine hK _ _ ?_
 clear hK K
 refine den_ret ?_
 simp (disch := decide) only [resP_1, puts_same, puts_ne]
 exact ⟨rfl, eB⟩

set_option maxRecDepth 100000 in
theorem sChnC_ok (vX vY vL : Value) (X : Cx) (Y : Cx) (L : List (List (List (List Int)))) (h : Heap) (rX : RC h vX X) (rY : RC h vY Y) (rL : R4 h vL L)  : CallA Try.prog 56 #[vX, vY, vL] h fun v' h' => v' = .int .i64 (chnC X Y L) ∧ Ext h h' := by
 obtain ⟨vdX, vmX, rfl, hdX, hmX⟩ := rX
 have hledX := RdS.le hdX
 have hlemX := RdS.le hmX
 obtain ⟨vdY, vmY, rfl, hdY, hmY⟩ := rY
 have hledY := RdS.le hdY
 have hlemY := RdS.le hmY
 have hleL := RdS.le rL
 refine callA_intro TTok (args := [_, _, _]) Try.func56 (by kernel_rfl) rfl 30 rfl (by simp) [.tmp 6] rfl ?_
 simp only [idxs, Nat.reduceAdd]
 refine den_seq ?_
 refine den_region TTok ?_
 intro K hK
 simp -implicitDefEqProofs (disch := first | decide | assumption | omega) only [go_sem, RdS.len hdX sl22, RdS.idx hdX sl22, R1.intB hdX (HPres.refl _), RdS.cells hdX, RdS.len hmX sl23, RdS.idx hmX sl23, RdS.cellB hmX (HPres.refl _), RdS.cells hmX, RdS.len hdY sl22, RdS.idx hdY sl22, R1.intB hdY (HPres.refl _), RdS.cells hdY, RdS.len hmY sl23, RdS.idx hmY sl23, RdS.cellB hmY (HPres.refl _), RdS.cells hmY, RdS.len rL sl88, RdS.idx rL sl88, RdS.cellB rL (HPres.refl _), RdS.cells rL, wrap_id]
 refine op_box (cs := #[.int .i64 (X.p), vdX, vmX]) rfl ?_
 intro h0_0 e0_0 hb0_0 z0_0
 have := Ext.size e0_0
 have eB := e0_0
 have hfhb0_0 : Fresh h.size [h.size] := Fresh.one _
 have hlhb0_0 := one_lt (show h.size < h0_0.size by omega)
 try simp -implicitDefEqProofs (disch := first | decide | assumption | omega) only [go_sem, RdS.len hdX sl22, RdS.idx hdX sl22, R1.intB hdX (Ext.pres eB), RdS.cells hdX, RdS.len hmX sl23, RdS.idx hmX sl23, RdS.cellB hmX (Ext.pres eB), RdS.cells hmX, RdS.len hdY sl22, RdS.idx hdY sl22, R1.intB hdY (Ext.pres eB), RdS.cells hdY, RdS.len hmY sl23, RdS.idx hmY sl23, RdS.cellB hmY (Ext.pres eB), RdS.cells hmY, RdS.len rL sl88, RdS.idx rL sl88, RdS.cellB rL (Ext.pres eB), RdS.cells rL, BoxAt.cell hb0_0, wrap_id]
 refine op_box (cs := #[.int .i64 (Y.p), vdY, vmY]) rfl ?_
 intro h0_1 e0_1 hb0_1 z0_1
 replace hb0_0 := BoxAt.ext hb0_0 e0_1
 have := Ext.size e0_1
 replace eB := Ext.trans eB e0_1
 have hfhb0_1 : Fresh h0_0.size [h0_0.size] := Fresh.one _
 have hlhb0_1 := one_lt (show h0_0.size < h0_1.size by omega)
 try simp -implicitDefEqProofs (disch := first | decide | assumption | omega) only [go_sem, RdS.len hdX sl22, RdS.idx hdX sl22, R1.intB hdX (Ext.pres eB), RdS.cells hdX, RdS.len hmX sl23, RdS.idx hmX sl23, RdS.cellB hmX (Ext.pres eB), RdS.cells hmX, RdS.len hdY sl22, RdS.idx hdY sl22, R1.intB hdY (Ext.pres eB), RdS.cells hdY, RdS.len hmY sl23, RdS.idx hmY sl23, RdS.cellB hmY (Ext.pres eB), RdS.cells hmY, RdS.len rL sl88, RdS.idx rL sl88, RdS.cellB rL (Ext.pres eB), RdS.cells rL, BoxAt.cell hb0_0, BoxAt.cell hb0_1, wrap_id]
 refine hK _ _ ?_
 clear hK K
 refine den_seq ?_
 refine den_seq ?_
 refine den_region TTok ?_
 intro K hK
 simp -implicitDefEqProofs (disch := first | decide | assumption | omega) only [go_sem, ld30, RdS.len hdX sl22, RdS.idx hdX sl22, R1.intB hdX (Ext.pres eB), RdS.cells hdX, RdS.len hmX sl23, RdS.idx hmX sl23, RdS.cellB hmX (Ext.pres eB), RdS.cells hmX, RdS.len hdY sl22, RdS.idx hdY sl22, R1.intB hdY (Ext.pres eB), RdS.cells hdY, RdS.len hmY sl23, RdS.idx hmY sl23, RdS.cellB hmY (Ext.pres eB), RdS.cells hmY, RdS.len rL sl88, RdS.idx rL sl88, RdS.cellB rL (Ext.pres eB), RdS.cells rL, BoxAt.cell hb0_0, BoxAt.cell hb0_1, wrap_id]
 try simp -implicitDefEqProofs (disch := first | decide | assumption | omega) only [go_sem, RdS.len hdX sl22, RdS.idx hdX sl22, R1.intB hdX (Ext.pres eB), RdS.cells hdX, RdS.len hmX sl23, RdS.idx hmX sl23, RdS.cellB hmX (Ext.pres eB), RdS.cells hmX, RdS.len hdY sl22, RdS.idx hdY sl22, R1.intB hdY (Ext.pres eB), RdS.cells hdY, RdS.len hmY sl23, RdS.idx hmY sl23, RdS.cellB hmY (Ext.pres eB), RdS.cells hmY, RdS.len rL sl88, RdS.idx rL sl88, RdS.cellB rL (Ext.pres eB), RdS.cells rL, BoxAt.cell hb0_0, BoxAt.cell hb0_1, wrap_id]
 refine CallA.mono (sFamC_ok _ _ _ X Y L _ ⟨_, _, rfl, (RdS.pres hdX (Ext.pres eB)), (RdS.pres hmX (Ext.pres eB))⟩ ⟨_, _, rfl, (RdS.pres hdY (Ext.pres eB)), (RdS.pres hmY (Ext.pres eB))⟩ (RdS.pres rL (Ext.pres eB)) ) ?_
 intro v_ h1_3
 rintro ⟨rfl, e1_3⟩
 replace hb0_0 := BoxAt.ext hb0_0 e1_3
 replace hb0_1 := BoxAt.ext hb0_1 e1_3
 have := Ext.size e1_3
 replace eB := Ext.trans eB e1_3
 try simp -implicitDefEqProofs (disch := first | decide | assumption | omega) only [go_sem, RdS.len hdX sl22, RdS.idx hdX sl22, R1.intB hdX (Ext.pres eB), RdS.cells hdX, RdS.len hmX sl23, RdS.idx hmX sl23, RdS.cellB hmX (Ext.pres eB), RdS.cells hmX, RdS.len hdY sl22, RdS.idx hdY sl22, R1.intB hdY (Ext.pres eB), RdS.cells hdY, RdS.len hmY sl23, RdS.idx hmY sl23, RdS.cellB hmY (Ext.pres eB), RdS.cells hmY, RdS.len rL sl88, RdS.idx rL sl88, RdS.cellB rL (Ext.pres eB), RdS.cells rL, BoxAt.cell hb0_0, BoxAt.cell hb0_1, wrap_id]
 refine hK _ _ ?_
 clear hK K
 refine den_seq ?_
 refine den_region TTok ?_
 intro K hK
 simp -implicitDefEqProofs (disch := first | decide | assumption | omega) only [go_sem, RdS.len hdX sl22, RdS.idx hdX sl22, R1.intB hdX (Ext.pres eB), RdS.cells hdX, RdS.len hmX sl23, RdS.idx hmX sl23, RdS.cellB hmX (Ext.pres eB), RdS.cells hmX, RdS.len hdY sl22, RdS.idx hdY sl22, R1.intB hdY (Ext.pres eB), RdS.cells hdY, RdS.len hmY sl23, RdS.idx hmY sl23, RdS.cellB hmY (Ext.pres eB), RdS.cells hmY, RdS.len rL sl88, RdS.idx rL sl88, RdS.cellB rL (Ext.pres eB), RdS.cells rL, BoxAt.cell hb0_0, BoxAt.cell hb0_1, wrap_id]
 refine hK _ _ ?_
 clear hK K
 refine den_cond rfl (fun c0 => ?_) (fun c0 => ?_)
 ·try simp only [decide_eq_true_eq, decide_eq_false_iff_not, beq_iff_eq, beq_eq_false_iff_ne, bne_iff_ne, ne_eq, Bool.not_eq_true', Bool.not_eq_false', Bool.and_eq_true, Bool.or_eq_true, bne_eq_false_iff_eq] at c0
  refine den_seq ?_
  refine den_region TTok ?_
  intro K hK
  simp -implicitDefEqProofs (disch := first | decide | assumption | omega) only [go_sem, RdS.len hdX sl22, RdS.idx hdX sl22, R1.intB hdX (Ext.pres eB), RdS.cells hdX, RdS.len hmX sl23, RdS.idx hmX sl23, RdS.cellB hmX (Ext.pres eB), RdS.cells hmX, RdS.len hdY sl22, RdS.idx hdY sl22, R1.intB hdY (Ext.pres eB), RdS.cells hdY, RdS.len hmY sl23, RdS.idx hmY sl23, RdS.cellB hmY (Ext.pres eB), RdS.cells hmY, RdS.len rL sl88, RdS.idx rL sl88, RdS.cellB rL (Ext.pres eB), RdS.cells rL, wrap_id]
  refine hK _ _ ?_
  clear hK K
  refine den_ret ?_
  simp (disch := decide) only [resP_1, puts_same, puts_ne]
  exact ⟨vint (by rw [chnC, cadd_n c0]), eB⟩
 ·try simp only [decide_eq_true_eq, decide_eq_false_iff_not, beq_iff_eq, beq_eq_false_iff_ne, bne_iff_ne, ne_eq, Bool.not_eq_true', Bool.not_eq_false', Bool.and_eq_true, Bool.or_eq_true, bne_eq_false_iff_eq] at c0
  obtain ⟨h0_, hL_⟩ := famC_0 c0
  obtain ⟨hX, hY, hpp, hll⟩ := pairC_0 h0_
  refine den_skip ?_
  refine den_seq ?_
  refine den_seq ?_
  refine den_region TTok ?_
  intro K hK
  simp -implicitDefEqProofs (disch := first | decide | assumption | omega) only [go_sem, RdS.len hdX sl22, RdS.idx hdX sl22, R1.intB hdX (Ext.pres eB), RdS.cells hdX, RdS.len hmX sl23, RdS.idx hmX sl23, RdS.cellB hmX (Ext.pres eB), RdS.cells hmX, RdS.len hdY sl22, RdS.idx hdY sl22, R1.intB hdY (Ext.pres eB), RdS.cells hdY, RdS.len hmY sl23, RdS.idx hmY sl23, RdS.cellB hmY (Ext.pres eB), RdS.cells hmY, RdS.len rL sl88, RdS.idx rL sl88, RdS.cellB rL (Ext.pres eB), RdS.cells rL, BoxAt.cell hb0_0, BoxAt.cell hb0_1, wrap_id]
  refine hK _ _ ?_
  clear hK K
  refine den_block ?_
  refine den_sel [8, 2, 3, 4] ?_
  intro env_1
  simp only [go_sem]
  refine den_loopS (σ := Nat) (fun st_ => [(8, .int .i64 (st_ : Int))]) (fun st_ H => (st_ ≤ L.length) ∧ (∀ j, j < st_ → (!chnP X Y (L.getD j default)) = false) ∧ (Ext h1_3 H)) (fun st_ => L.length - st_) 0 ?_ ?_
  ·exact ⟨by simp, fun j hj => by omega, Ext.refl _⟩
  ·rintro k h4 ee3 ⟨hk, hz, cL2⟩
   replace hb0_0 := BoxAt.ext hb0_0 cL2
   replace hb0_1 := BoxAt.ext hb0_1 cL2
   have := Ext.size cL2
   replace eB := Ext.trans eB cL2
   simp only [List.cons_append, List.nil_append]
   refine den_seq ?_
   refine den_seq ?_
   refine den_region TTok ?_
   intro K hK
   simp -implicitDefEqProofs (disch := first | decide | assumption | omega) only [go_sem, RdS.len hdX sl22, RdS.idx hdX sl22, R1.intB hdX (Ext.pres eB), RdS.cells hdX, RdS.len hmX sl23, RdS.idx hmX sl23, RdS.cellB hmX (Ext.pres eB), RdS.cells hmX, RdS.len hdY sl22, RdS.idx hdY sl22, R1.intB hdY (Ext.pres eB), RdS.cells hdY, RdS.len hmY sl23, RdS.idx hmY sl23, RdS.cellB hmY (Ext.pres eB), RdS.cells hmY, RdS.len rL sl88, RdS.idx rL sl88, RdS.cellB rL (Ext.pres eB), RdS.cells rL, BoxAt.cell hb0_0, BoxAt.cell hb0_1, wrap_id]
   refine hK _ _ ?_
   clear hK K
   refine den_cond rfl (fun c1 => ?_) (fun c1 => ?_)
   ·try simp only [decide_eq_true_eq, decide_eq_false_iff_not, beq_iff_eq, beq_eq_false_iff_ne, bne_iff_ne, ne_eq, Bool.not_eq_true', Bool.not_eq_false', Bool.and_eq_true, Bool.or_eq_true, bne_eq_false_iff_eq] at c1
    refine den_skip ?_
    refine den_seq ?_
    refine den_block ?_
    refine den_seq ?_
    have hF := hL_ _ (getD_mem (R := L) (k := k) (by omega))
    refine den_draw TTok mixed [] [(0, true), (1, true), (2, true), (3, true), (4, true), (5, true), (6, false), (7, true)] (by kernel_rfl) ?_
    intro K hK
    have hr5 := RdS.rowN rL k (by omega)
    have hlhr5 := RdS.le hr5
    simp -implicitDefEqProofs (disch := first | decide | assumption | omega) only [go_sem, ld23, ld30, RdS.len hdX sl22, RdS.idx hdX sl22, R1.intB hdX (Ext.pres eB), RdS.cells hdX, RdS.len hmX sl23, RdS.idx hmX sl23, RdS.cellB hmX (Ext.pres eB), RdS.cells hmX, RdS.len hdY sl22, RdS.idx hdY sl22, R1.intB hdY (Ext.pres eB), RdS.cells hdY, RdS.len hmY sl23, RdS.idx hmY sl23, RdS.cellB hmY (Ext.pres eB), RdS.cells hmY, RdS.len rL sl88, RdS.idx rL sl88, RdS.cellB rL (Ext.pres eB), RdS.cells rL, RdS.len hr5 sl23, RdS.idx hr5 sl23, RdS.cellB hr5 (Ext.pres eB), RdS.cells hr5, BoxAt.cell hb0_0, BoxAt.cell hb0_1, wrap_id]
    try simp -implicitDefEqProofs (disch := first | decide | assumption | omega) only [go_sem, RdS.len hdX sl22, RdS.idx hdX sl22, R1.intB hdX (Ext.pres eB), RdS.cells hdX, RdS.len hmX sl23, RdS.idx hmX sl23, RdS.cellB hmX (Ext.pres eB), RdS.cells hmX, RdS.len hdY sl22, RdS.idx hdY sl22, R1.intB hdY (Ext.pres eB), RdS.cells hdY, RdS.len hmY sl23, RdS.idx hmY sl23, RdS.cellB hmY (Ext.pres eB), RdS.cells hmY, RdS.len rL sl88, RdS.idx rL sl88, RdS.cellB rL (Ext.pres eB), RdS.cells rL, RdS.len hr5 sl23, RdS.idx hr5 sl23, RdS.cellB hr5 (Ext.pres eB), RdS.cells hr5, BoxAt.cell hb0_0, BoxAt.cell hb0_1, wrap_id]
    refine CallA.mono (sChn_ok _ _ _ X Y ((L).getD k default) _ ⟨_, _, rfl, (RdS.pres hdX (Ext.pres eB)), (RdS.pres hmX (Ext.pres eB))⟩ ⟨_, _, rfl, (RdS.pres hdY (Ext.pres eB)), (RdS.pres hmY (Ext.pres eB))⟩ (RdS.pres hr5 (Ext.pres eB)) hX hY hF hpp hll) ?_
    intro v_ h7_6
    rintro ⟨rfl, e7_6⟩
    replace hb0_0 := BoxAt.ext hb0_0 e7_6
    replace hb0_1 := BoxAt.ext hb0_1 e7_6
    have := Ext.size e7_6
    replace eB := Ext.trans eB e7_6
    replace cL2 := Ext.trans cL2 e7_6
    try simp (disch := decide) only [outv_some, outv_none, put_puts]
    refine plK_pres (Ext.pres e7_6) ?_
    try simp -implicitDefEqProofs (disch := first | decide | assumption | omega) only [go_sem, RdS.len hdX sl22, RdS.idx hdX sl22, R1.intB hdX (Ext.pres eB), RdS.cells hdX, RdS.len hmX sl23, RdS.idx hmX sl23, RdS.cellB hmX (Ext.pres eB), RdS.cells hmX, RdS.len hdY sl22, RdS.idx hdY sl22, R1.intB hdY (Ext.pres eB), RdS.cells hdY, RdS.len hmY sl23, RdS.idx hmY sl23, RdS.cellB hmY (Ext.pres eB), RdS.cells hmY, RdS.len rL sl88, RdS.idx rL sl88, RdS.cellB rL (Ext.pres eB), RdS.cells rL, RdS.len hr5 sl23, RdS.idx hr5 sl23, RdS.cellB hr5 (Ext.pres eB), RdS.cells hr5, BoxAt.cell hb0_0, BoxAt.cell hb0_1, wrap_id]
    refine hK _ _ ?_
    clear hK K
    refine den_cond rfl (fun c2 => ?_) (fun c2 => ?_)
    ·try simp only [decide_eq_true_eq, decide_eq_false_iff_not, beq_iff_eq, beq_eq_false_iff_ne, bne_iff_ne, ne_eq, Bool.not_eq_true', Bool.not_eq_false', Bool.and_eq_true, Bool.or_eq_true, bne_eq_false_iff_eq] at c2
     refine den_seq ?_
     refine den_region TTok ?_
     intro K hK
     simp -implicitDefEqProofs (disch := first | decide | assumption | omega) only [go_sem, RdS.len hdX sl22, RdS.idx hdX sl22, R1.intB hdX (Ext.pres eB), RdS.cells hdX, RdS.len hmX sl23, RdS.idx hmX sl23, RdS.cellB hmX (Ext.pres eB), RdS.cells hmX, RdS.len hdY sl22, RdS.idx hdY sl22, R1.intB hdY (Ext.pres eB), RdS.cells hdY, RdS.len hmY sl23, RdS.idx hmY sl23, RdS.cellB hmY (Ext.pres eB), RdS.cells hmY, RdS.len rL sl88, RdS.idx rL sl88, RdS.cellB rL (Ext.pres eB), RdS.cells rL, RdS.len hr5 sl23, RdS.idx hr5 sl23, RdS.cellB hr5 (Ext.pres eB), RdS.cells hr5, wrap_id]
     refine hK _ _ ?_
     clear hK K
     refine den_ret ?_
     simp (disch := decide) only [resP_1, puts_same, puts_ne]
     exact ⟨vint (by rw [chnC, c0, cadd_z, any_stop (d := default) (k := k) (by omega) (by simpa using c2)]; rfl), eB⟩
    ·try simp only [decide_eq_true_eq, decide_eq_false_iff_not, beq_iff_eq, beq_eq_false_iff_ne, bne_iff_ne, ne_eq, Bool.not_eq_true', Bool.not_eq_false', Bool.and_eq_true, Bool.or_eq_true, bne_eq_false_iff_eq] at c2
     refine den_skip ?_
     refine den_blk ?_
     refine den_region TTok ?_
     intro K hK
     simp -implicitDefEqProofs (disch := first | decide | assumption | omega) only [go_sem, RdS.len hdX sl22, RdS.idx hdX sl22, R1.intB hdX (Ext.pres eB), RdS.cells hdX, RdS.len hmX sl23, RdS.idx hmX sl23, RdS.cellB hmX (Ext.pres eB), RdS.cells hmX, RdS.len hdY sl22, RdS.idx hdY sl22, R1.intB hdY (Ext.pres eB), RdS.cells hdY, RdS.len hmY sl23, RdS.idx hmY sl23, RdS.cellB hmY (Ext.pres eB), RdS.cells hmY, RdS.len rL sl88, RdS.idx rL sl88, RdS.cellB rL (Ext.pres eB), RdS.cells rL, RdS.len hr5 sl23, RdS.idx hr5 sl23, RdS.cellB hr5 (Ext.pres eB), RdS.cells hr5, BoxAt.cell hb0_0, BoxAt.cell hb0_1, wrap_id]
     refine hK _ _ ?_
     clear hK K
     refine den_stop ?_
     exact ⟨k + 1, by simp [HasL, puts_at], ⟨by omega, fun j hj => (Nat.lt_succ_iff_lt_or_eq.1 hj).elim (hz j) (fun e => by rw [e]; simpa using c2), cL2⟩, by first | omega | (dsimp only; omega)⟩
   ·try simp only [decide_eq_true_eq, decide_eq_false_iff_not, beq_iff_eq, beq_eq_false_iff_ne, bne_iff_ne, ne_eq, Bool.not_eq_true', Bool.not_eq_false', Bool.and_eq_true, Bool.or_eq_true, bne_eq_false_iff_eq] at c1
    refine den_exit ?_
    refine denX_code ?_
    refine denX_stop ?_
    refine denX_hit ?_
    refine den_seq ?_
    refine den_region TTok ?_
    intro K hK
    simp -implicitDefEqProofs (disch := first | decide | assumption | omega) only [go_sem, RdS.len hdX sl22, RdS.idx hdX sl22, R1.intB hdX (Ext.pres eB), RdS.cells hdX, RdS.len hmX sl23, RdS.idx hmX sl23, RdS.cellB hmX (Ext.pres eB), RdS.cells hmX, RdS.len hdY sl22, RdS.idx hdY sl22, R1.intB hdY (Ext.pres eB), RdS.cells hdY, RdS.len hmY sl23, RdS.idx hmY sl23, RdS.cellB hmY (Ext.pres eB), RdS.cells hmY, RdS.len rL sl88, RdS.idx rL sl88, RdS.cellB rL (Ext.pres eB), RdS.cells rL, wrap_id]
    refine hK _ _ ?_
    clear hK K
    refine den_ret ?_
    simp (disch := decide) only [resP_1, puts_same, puts_ne]
    exact ⟨vint (by rw [chnC, c0, cadd_z, any_end default (k := k) (by omega) hz]; rfl), eB⟩
end Go.Proofs.Ytbplnadngahgaaa
