/-
  The ground, third part: the machine's operation does what 'stepV' says.
  Conditions: the table of types T fits the program (TOk).
-/
import Derived.Test.YtkdnnfkdgmblgaaG1
set_option linter.unusedVariables false
set_option linter.unusedSimpArgs false
namespace Go.Proofs.Ytkdnnfkdgmblgaa
open Go

section
variable {P : Program} {T : Tab} (hT : TOk P T)
include hT

theorem run_part {t : TypeId} {cs : Array Value} {off : Nat} {v : Value} (w : World) (h : partV T t cs off = some v) : (part t cs off).run P w = .ok v w := by
  unfold partV at h
  obtain ⟨i, hi, h⟩ := Option.bind_eq_some_iff.1 h
  unfold part
  simp only [Sem.run_bind, run_isAgg hT hi, Result.andThen_ok]
  split at h
  · rename_i hg
    simp only [Option.some.injEq] at h
    simp [hg, run_sizeT hT hi, h]
  · rename_i hg
    simp [hg, h]

theorem run_build {t : TypeId} {parts : List (Nat × Value)} {v : Value} (w : World) (h : buildV T t parts = some v) : (Instr.build t parts.toArray).run P w = .ok v w := by
  unfold buildV at h
  obtain ⟨i, hi, h⟩ := Option.bind_eq_some_iff.1 h
  unfold Instr.build
  simp only [Sem.run_bind, run_zeroT hT hi, run_under hT hi, Result.andThen_ok]
  split at h
  · rename_i fs hd
    rw [hd]
    obtain ⟨pl, hpl, h⟩ := Option.bind_eq_some_iff.1 h
    obtain ⟨cs, hcs, rfl⟩ := Option.map_eq_some_iff.1 h
    have key : ∀ (l : List Field) (pl : List (Nat × Nat)), l.mapM (fun f => (T f.type).map fun i => (f.offset, i.size)) = some pl → (l.mapM (fun (f : Field) => do pure (f.offset, ← sizeOf f.type) : Field → Sem (Nat × Nat))).run P w = .ok pl w := by
      intro l
      induction l with
      | nil => intro pl h; simp at h; subst h; simp
      | cons f l ih =>
        intro pl h
        simp only [List.mapM_cons, Option.bind_eq_bind, Option.bind_eq_some_iff, Option.map_eq_some_iff, Option.pure_def, Option.some.injEq] at h
        obtain ⟨b, ⟨j, hj, rfl⟩, c, hc, rfl⟩ := h
        simp only [List.mapM_cons, Sem.run_bind, run_sizeT hT hj, Result.andThen_ok, Sem.run_pure, ih c hc]
    have e : (fs.mapM (fun (f : Field) => do pure (f.offset, ← sizeOf f.type) : Field → Sem (Nat × Nat))).run P w = .ok pl.toArray w := by
      rw [Array.mapM_eq_mapM_toList]
      simp only [Sem.run_map, key fs.toList pl hpl, Result.andThen_ok]
    simp only [Sem.run_bind, e, Result.andThen_ok]
    have e2 : (fun x : Nat => pl.toArray[x]?) = (fun x : Nat => pl[x]?) := by funext x; simp
    simp only [e2, List.toList_toArray, hcs]
    simp
  · rename_i n e hd
    rw [hd]
    obtain ⟨j, hj, h⟩ := Option.bind_eq_some_iff.1 h
    obtain ⟨cs, hcs, rfl⟩ := Option.map_eq_some_iff.1 h
    simp only [Sem.run_bind, run_sizeT hT hj, Result.andThen_ok, hcs]
    simp
  · cases h

theorem run_buildSlice {t : TypeId} {len : Nat} {parts : List (Nat × Value)} {v : Value} {h' : Heap} (w : World) (h : buildSliceV T w.heap t len parts = some (v, h')) :
    (Instr.buildSlice t len parts.toArray).run P w = .ok v { w with heap := h' } := by
  unfold buildSliceV at h
  obtain ⟨i, hi, h⟩ := Option.bind_eq_some_iff.1 h
  unfold Instr.buildSlice
  simp only [Sem.run_bind, run_under hT hi, Result.andThen_ok]
  split at h
  · rename_i e hd
    rw [hd]
    obtain ⟨j, hj, h⟩ := Option.bind_eq_some_iff.1 h
    split at h
    · rename_i hs
      obtain ⟨cs, hcs, h⟩ := Option.map_eq_some_iff.1 h
      simp only [Prod.mk.injEq] at h
      obtain ⟨rfl, rfl⟩ := h
      have hn : ¬ (len * j.size > 2 ^ 24) := by omega
      simp only [Sem.run_bind, run_sizeT hT hj, Result.andThen_ok, hn, if_false, Sem.run_pure]
      by_cases hz : len * j.size = 0
      · simp only [hz, if_true, Sem.run_pure, Sem.run_bind, Result.andThen_ok] at hcs ⊢
        simp only [hcs]
        simp [newRow]
      · simp only [hz, if_false, Sem.run_bind, run_zeroT hT hj, Sem.run_pure, Result.andThen_ok] at hcs ⊢
        simp only [hcs]
        simp [newRow]
    · cases h
  · cases h

omit hT in
theorem wrap_id {x : Int} (h : -9223372036854775808 ≤ x ∧ x ≤ 9223372036854775807) : IntKind.i64.wrap x = x := IntWalk.i64_in _ h

theorem run_makeSlice {t : TypeId} {l c v : Value} {h' : Heap} (w : World) (h : makeSliceV T w.heap t l c = some (v, h')) : (Instr.makeSlice t l c).run P w = .ok v { w with heap := h' } := by
  unfold makeSliceV at h
  obtain ⟨i, hi, h⟩ := Option.bind_eq_some_iff.1 h
  split at h
  · rename_i e hd
    obtain ⟨j, hj, h⟩ := Option.bind_eq_some_iff.1 h
    obtain ⟨⟨k1, lv⟩, hl, h⟩ := Option.bind_eq_some_iff.1 h
    obtain ⟨⟨k2, cv⟩, hc, h⟩ := Option.bind_eq_some_iff.1 h
    have el := asI_some hl
    have ec := asI_some hc
    dsimp only at el ec h
    rw [el, ec]
    clear el ec hl hc
    generalize lv = l at *
    generalize cv = c at *
    split at h
    · rename_i hc
      obtain ⟨h1, h2, h3, h4⟩ := hc
      simp only [Option.some.injEq, Prod.mk.injEq] at h
      obtain ⟨rfl, rfl⟩ := h
      obtain ⟨_, f, hf, e1, e2, e3⟩ := hT e j hj
      unfold Instr.makeSlice
      have w1 : IntKind.i64.wrap l = l := IntWalk.i64_in _ (by omega)
      have w2 : IntKind.i64.wrap c = c := IntWalk.i64_in _ (by omega)
      simp only [Sem.run_bind, run_under hT hi, Result.andThen_ok, hd, asInt, asIntOf, Sem.run_pure, run_typeInfo _ hf, w1, w2]
      have b1 : (decide (c < 0) || decide ((f.bytes : Int) * c > 2 ^ 48)) = false := by
        rw [e2]; simp; omega
      have b2 : decide (l < 0) = false := by simp; omega
      have b3 : decide (l > c) = false := by simp; omega
      simp only [b1, b2, b3, Bool.or_self, Bool.false_eq_true, if_false, Sem.run_pure, Sem.run_bind, run_askRoom, Result.andThen_ok, run_sizeT hT hj]
      by_cases hz : c.toNat * j.size = 0
      · simp only [hz, if_true, Sem.run_pure, Sem.run_bind, Result.andThen_ok]
        simp [newRow]
      · simp only [hz, if_false, Sem.run_bind, run_zeroT hT hj, Sem.run_pure, Result.andThen_ok]
        simp [newRow]
    · cases h
  · cases h

omit hT in
theorem run_bnd {v : Value} {y n : Nat} (code : BoundsCode) (w : World) (h : bndV v y = some n) : (Instr.sliceBound v y code).run P w = .ok n w := by
  unfold bndV at h
  split at h
  · rename_i k i
    split at h
    · rename_i hc
      simp only [Option.some.injEq] at h
      subst h
      unfold Instr.sliceBound
      simp only [Sem.run_bind, asIntOf, Sem.run_pure, Result.andThen_ok, hc, if_true, and_self]
    · cases h
  · cases h
omit hT in
theorem run_bnds {len cap : Nat} {lo hi mx : Option Value} {b : Nat × Nat × Nat} (isS : Bool) (w : World) (h : bndsV len cap lo hi mx = some b) :
    (Instr.sliceBounds isS len cap lo hi mx).run P w = .ok b w := by
  unfold bndsV at h
  unfold Instr.sliceBounds
  cases mx with
  | some m =>
    obtain ⟨m1, hm, h⟩ := Option.bind_eq_some_iff.1 h
    cases hi with
    | none => cases h
    | some hv =>
      obtain ⟨h1, hh, h⟩ := Option.bind_eq_some_iff.1 h
      cases lo with
      | none =>
        simp only [Option.some.injEq] at h
        subst h
        simp only [Sem.run_bind, run_bnd _ w hm, run_bnd _ w hh, Result.andThen_ok, Sem.run_pure]
      | some l =>
        obtain ⟨l1, hl, h⟩ := Option.map_eq_some_iff.1 h
        subst h
        simp only [Sem.run_bind, run_bnd _ w hm, run_bnd _ w hh, run_bnd _ w hl, Result.andThen_ok, Sem.run_pure]
  | none =>
    cases hi with
    | none =>
      cases lo with
      | none =>
        simp only [Option.some.injEq] at h
        subst h
        simp only [Sem.run_bind, Result.andThen_ok, Sem.run_pure]
      | some l =>
        obtain ⟨l1, hl, h⟩ := Option.map_eq_some_iff.1 h
        subst h
        simp only [Sem.run_bind, run_bnd _ w hl, Result.andThen_ok, Sem.run_pure]
    | some hv =>
      obtain ⟨h1, hh, h⟩ := Option.bind_eq_some_iff.1 h
      cases lo with
      | none =>
        simp only [Option.some.injEq] at h
        subst h
        simp only [Sem.run_bind, run_bnd _ w hh, Result.andThen_ok, Sem.run_pure]
      | some l =>
        obtain ⟨l1, hl, h⟩ := Option.map_eq_some_iff.1 h
        subst h
        simp only [Sem.run_bind, run_bnd _ w hh, run_bnd _ w hl, Result.andThen_ok, Sem.run_pure]

theorem run_sliceV {t : TypeId} {x v : Value} {lo hi mx : Option Value} (w : World) (h : sliceV T t x lo hi mx = some v) : (Instr.sliceAt t x lo hi mx).run P w = .ok v w := by
  unfold sliceV at h
  obtain ⟨i, hi, hz_⟩ := Option.bind_eq_some_iff.1 h
  clear h
  have h := hz_
  clear hz_
  unfold Instr.sliceAt
  simp only [Sem.run_bind, run_under hT hi, Result.andThen_ok]
  split at h
  · rename_i e a len cap hd
    obtain ⟨j, hj, hz_⟩ := Option.bind_eq_some_iff.1 h
    clear h
    have h := hz_
    clear hz_
    obtain ⟨b, hb, hz_⟩ := Option.map_eq_some_iff.1 h
    clear h
    have h := hz_
    clear hz_
    subst h
    rw [hd]
    dsimp only
    unfold Instr.slice
    simp only [Sem.run_bind, run_under hT hi, Result.andThen_ok, hd, run_bnds true w hb, run_sizeT hT hj, Sem.run_pure]
  · rename_i n e a hd
    obtain ⟨j, hj, hz_⟩ := Option.bind_eq_some_iff.1 h
    clear h
    have h := hz_
    clear hz_
    obtain ⟨b, hb, hz_⟩ := Option.map_eq_some_iff.1 h
    clear h
    have h := hz_
    clear hz_
    subst h
    rw [hd]
    simp only [Sem.run_bind, Instr.sureAddr, Result.andThen_ok, run_bnds false w hb, run_sizeT hT hj, Sem.run_pure]
  · cases h

theorem run_idxAddr {t : TypeId} {x ix v : Value} (w : World) (h : idxAddrV T t x ix = some v) : (Instr.indexAt t x ix).run P w = .ok v w := by
  unfold idxAddrV at h
  obtain ⟨i, hi, hz_⟩ := Option.bind_eq_some_iff.1 h
  clear h
  have h := hz_
  clear hz_
  obtain ⟨⟨k, q⟩, hq, hz_⟩ := Option.bind_eq_some_iff.1 h
  clear h
  have h := hz_
  clear hz_
  have eq := asI_some hq
  dsimp only at eq h
  rw [eq]
  unfold Instr.indexAt
  simp only [Sem.run_bind, run_under hT hi, Result.andThen_ok, asIntOf, Sem.run_pure]
  split at h
  · rename_i e a len cap hd
    obtain ⟨j, hj, hz_⟩ := Option.bind_eq_some_iff.1 h
    clear h
    have h := hz_
    clear hz_
    split at h
    · rename_i hc
      simp only [Option.some.injEq] at h
      subst h
      rw [hd]
      simp only [Sem.run_pure, Result.andThen_ok, hc, and_self, if_true, Sem.run_bind, run_sizeT hT hj, run_under hT hi]
    · cases h
  · rename_i len e a hd
    obtain ⟨j, hj, hz_⟩ := Option.bind_eq_some_iff.1 h
    clear h
    have h := hz_
    clear hz_
    split at h
    · rename_i hc
      simp only [Option.some.injEq] at h
      subst h
      rw [hd]
      simp only [Instr.sureAddr, Sem.run_bind, Sem.run_pure, Result.andThen_ok, hc, and_self, if_true, run_sizeT hT hj, run_under hT hi]
    · cases h
  · cases h

theorem run_fieldAddr {s : TypeId} {x v : Value} {f : Nat} (w : World) (h : fieldAddrV T s x f = some v) : (Instr.fieldAt s x f).run P w = .ok v w := by
  unfold fieldAddrV at h
  obtain ⟨i, hi, hz_⟩ := Option.bind_eq_some_iff.1 h
  clear h
  have h := hz_
  clear hz_
  unfold Instr.fieldAt
  simp only [Sem.run_bind, run_under hT hi, Result.andThen_ok]
  split at h
  · rename_i fs hd
    obtain ⟨g, hg, hz_⟩ := Option.bind_eq_some_iff.1 h
    clear h
    have h := hz_
    clear hz_
    obtain ⟨j, hj, hz_⟩ := Option.bind_eq_some_iff.1 h
    clear h
    have h := hz_
    clear hz_
    obtain ⟨a, ha, hz_⟩ := Option.bind_eq_some_iff.1 h
    clear h
    have h := hz_
    clear hz_
    have ea := asAd_some ha
    split at h
    · cases h
    · rename_i hz
      simp only [Option.some.injEq] at h
      subst h
      rw [hd, ea]
      simp only [hg, Instr.sureAddr, fieldPlace, Sem.run_bind, Sem.run_pure, Result.andThen_ok, run_sizeT hT hj, hz, if_false]
  · cases h

theorem run_fieldV {s : TypeId} {x v : Value} {f : Nat} (w : World) (h : fieldV T s x f = some v) : (Instr.field s x f).run P w = .ok v w := by
  unfold fieldV at h
  obtain ⟨i, hi, hz_⟩ := Option.bind_eq_some_iff.1 h
  clear h
  have h := hz_
  clear hz_
  unfold Instr.field
  simp only [Sem.run_bind, run_under hT hi, Result.andThen_ok]
  split at h
  · rename_i fs cs hd
    obtain ⟨g, hg, hz_⟩ := Option.bind_eq_some_iff.1 h
    clear h
    have h := hz_
    clear hz_
    rw [hd]
    simp only [hg, asAgg, Sem.run_bind, Sem.run_pure, Result.andThen_ok, run_part hT w h]
  · cases h

theorem run_indexV {t : TypeId} {x ix v : Value} (w : World) (h : indexV T t x ix = some v) : (Instr.index t x ix).run P w = .ok v w := by
  unfold indexV at h
  obtain ⟨i, hi, hz_⟩ := Option.bind_eq_some_iff.1 h
  clear h
  have h := hz_
  clear hz_
  obtain ⟨⟨k, q⟩, hq, hz_⟩ := Option.bind_eq_some_iff.1 h
  clear h
  have h := hz_
  clear hz_
  have eq := asI_some hq
  dsimp only at eq h
  rw [eq]
  unfold Instr.index
  simp only [Sem.run_bind, run_under hT hi, Result.andThen_ok, asIntOf, Sem.run_pure]
  split at h
  · rename_i len e cs hd
    obtain ⟨j, hj, hz_⟩ := Option.bind_eq_some_iff.1 h
    clear h
    have h := hz_
    clear hz_
    split at h
    · rename_i hc
      rw [hd]
      simp only [hc, and_self, if_true, Sem.run_bind, run_sizeT hT hj, Result.andThen_ok, run_part hT w h]
    · cases h
  · cases h

omit hT in
theorem run_intV {op : BinOp} {k : IntKind} {x y : Int} {v : Value} (w : World) (t : TypeId) (h : intV op k x y = some v) : (binOp op t (.int k x) (.int k y)).run P w = .ok v w := by
  cases op <;> simp only [intV, Option.some.injEq, reduceCtorEq] at h <;> (try subst h) <;> (try simp [binOp, Op.intArith, Op.intCmp]) <;> (split at h) <;> (try cases h)
  all_goals
    rename_i hz
    simp [binOp, Op.intDiv, hz]

omit hT in
theorem binOp_eq_bool (t : TypeId) (a b : Bool) : binOp .eql t (.bool a) (.bool b) = (do pure (.bool (← Op.equal t (.bool a) (.bool b)))) := rfl
omit hT in
theorem binOp_ne_bool (t : TypeId) (a b : Bool) : binOp .neq t (.bool a) (.bool b) = (do pure (.bool (!(← Op.equal t (.bool a) (.bool b))))) := rfl
omit hT in
theorem binOp_eq_sl (t : TypeId) (a b : Option Addr) (n c n' c' : Nat) : binOp .eql t (.slice a n c) (.slice b n' c') = (do pure (.bool (← Op.equal t (.slice a n c) (.slice b n' c')))) := rfl
omit hT in
theorem binOp_ne_sl (t : TypeId) (a b : Option Addr) (n c n' c' : Nat) : binOp .neq t (.slice a n c) (.slice b n' c') = (do pure (.bool (!(← Op.equal t (.slice a n c) (.slice b n' c'))))) := rfl
theorem run_equal_bool {t : TypeId} {i : TI} (hi : T t = some i) (hd : i.desc = .bool) (a b : Bool) (w : World) : (Op.equal t (.bool a) (.bool b)).run P w = .ok (a == b) w := by
  unfold Op.equal Op.maxDepth
  rw [show (10000 : Nat) = 9999 + 1 from rfl]
  unfold Op.equalIn
  simp only [Sem.run_bind, run_under hT hi, Result.andThen_ok, hd, Sem.run_pure]
theorem run_equal_sl {t : TypeId} {i : TI} {e : TypeId} (hi : T t = some i) (hd : i.desc = .slice e) (b : Option Addr) (n c n' c' : Nat) (w : World) : (Op.equal t (.slice none n c) (.slice b n' c')).run P w = .ok b.isNone w := by
  unfold Op.equal Op.maxDepth
  rw [show (10000 : Nat) = 9999 + 1 from rfl]
  unfold Op.equalIn
  simp only [Sem.run_bind, run_under hT hi, Result.andThen_ok, hd, Sem.run_pure]
theorem run_equal_sl' {t : TypeId} {i : TI} {e : TypeId} (hi : T t = some i) (hd : i.desc = .slice e) (a : Addr) (n c n' c' : Nat) (w : World) : (Op.equal t (.slice (some a) n c) (.slice none n' c')).run P w = .ok false w := by
  unfold Op.equal Op.maxDepth
  rw [show (10000 : Nat) = 9999 + 1 from rfl]
  unfold Op.equalIn
  simp only [Sem.run_bind, run_under hT hi, Result.andThen_ok, hd, Sem.run_pure]

omit hT in
theorem intsV_get {k : IntKind} : ∀ {l : List Value} {us : List Int}, (l.mapM fun v => match v with
  | .int k' a => if k' = k then some a else none
  | _ => none) = some us → l.length = us.length ∧ ∀ i, i < us.length → l[i]? = some (.int k (us.getD i 0))
  | [], us, h => by
    simp only [List.mapM_nil, Option.pure_def, Option.some.injEq] at h
    subst h; simp
  | v :: l, us, h => by
    simp only [List.mapM_cons, Option.bind_eq_bind, Option.bind_eq_some_iff, Option.pure_def, Option.some.injEq] at h
    obtain ⟨a, ha, us', hu, rfl⟩ := h
    obtain ⟨h1, h2⟩ := intsV_get hu
    refine ⟨by simp [h1], fun i hi => ?_⟩
    cases i with
    | zero =>
      cases v <;> simp at ha
      simp [ha.1, ha.2]
    | succ i =>
      have := h2 i (by simpa using hi)
      simpa using this
omit hT in
theorem all_range_int : ∀ (xs ys : List Int), xs.length = ys.length → ((List.range xs.length).all fun i => xs.getD i 0 == ys.getD i 0) = (xs == ys)
  | [], [], _ => rfl
  | x :: xs, y :: ys, h => by
    have ih := all_range_int xs ys (by simpa using h)
    rw [List.length_cons, List.range_succ_eq_map, List.all_cons, List.all_map]
    simp only [List.getD_cons_zero, Function.comp_def, List.getD_cons_succ, ih]
    simp [List.cons_beq_cons]
  | [], _ :: _, h => by simp at h
  | _ :: _, [], h => by simp at h
omit hT in
theorem binOp_eq_agg (t : TypeId) (xs ys : Array Value) : binOp .eql t (.agg xs) (.agg ys) = (do pure (.bool (← Op.equal t (.agg xs) (.agg ys)))) := rfl
omit hT in
theorem binOp_ne_agg (t : TypeId) (xs ys : Array Value) : binOp .neq t (.agg xs) (.agg ys) = (do pure (.bool (!(← Op.equal t (.agg xs) (.agg ys))))) := rfl
theorem run_equal_arr {t e : TypeId} {i j : TI} {n : Nat} {k : IntKind} (hi : T t = some i) (hd : i.desc = .array n e) (hj : T e = some j) (hk : j.desc = .int k) (hs : j.size = 1) {xs ys : Array Value} {us vs : List Int} (hx : intsV k xs = some us) (hy : intsV k ys = some vs) (hu : us.length = n) (hv : vs.length = n) (w : World) :
    (Op.equal t (.agg xs) (.agg ys)).run P w = .ok (us == vs) w := by
  obtain ⟨_, gx⟩ := intsV_get hx
  obtain ⟨_, gy⟩ := intsV_get hy
  unfold Op.equal Op.maxDepth
  rw [show (10000 : Nat) = 9998 + 1 + 1 from rfl]
  rw [← all_range_int us vs (hu.trans hv.symm), hu, List.range_eq_range', Op.equalIn]
  simp only [Sem.run_bind, run_under hT hi, Result.andThen_ok, hd, run_sizeT hT hj, hs, Std.Legacy.Range.forIn_eq_forIn_range', Std.Legacy.Range.size, Nat.sub_zero, Nat.add_sub_cancel, Nat.div_one]
  have hl : ∀ q ∈ List.range' 0 n 1, q < n := fun q hq => by simpa using (List.mem_range'_1.1 hq).2
  generalize List.range' 0 n 1 = l at hl ⊢
  induction l with
  | nil => simp
  | cons q l ih =>
    have hq : q < n := hl q (by simp)
    have px : (part e xs (q * 1)).run P w = .ok (.int k (us.getD q 0)) w := run_part hT w (by
      have := gx q (by omega)
      simp [partV, hj, hk, isAggD, ← Array.getElem?_toList, this])
    have py : (part e ys (q * 1)).run P w = .ok (.int k (vs.getD q 0)) w := run_part hT w (by
      have := gy q (by omega)
      simp [partV, hj, hk, isAggD, ← Array.getElem?_toList, this])
    have pe : (Op.equalIn (9998 + 1) e (.int k (us.getD q 0)) (.int k (vs.getD q 0))).run P w = .ok (us.getD q 0 == vs.getD q 0) w := by
      rw [Op.equalIn]
      simp only [Sem.run_bind, run_under hT hj, Result.andThen_ok, hk, if_true, Sem.run_pure]
    simp only [List.forIn_cons, Sem.run_bind, px, py, pe, Result.andThen_ok, List.all_cons]
    cases hb : (us.getD q 0 == vs.getD q 0)
    · simp
    · simp only [Bool.not_true, Bool.false_eq_true, if_false, Sem.run_pure, Result.andThen_ok, Bool.true_and]
      exact ih fun j hj => hl j (by simp [hj])
theorem run_binV {op : BinOp} {t : TypeId} {x y v : Value} (w : World) (h : binV T op t x y = some v) : (binOp op t x y).run P w = .ok v w := by
  unfold binV at h
  split at h
  · rename_i k a k' b
    split at h
    · rename_i e
      subst e
      exact run_intV w t h
    · cases h
  · rename_i a b
    obtain ⟨i, hi, h1⟩ := Option.bind_eq_some_iff.1 h
    clear h
    split at h1
    · rename_i hd
      simp only [Option.some.injEq] at h1
      subst h1
      simp only [binOp_eq_bool, Sem.run_bind, run_equal_bool hT hi hd, Result.andThen_ok, Sem.run_pure]
    · rename_i hd
      simp only [Option.some.injEq] at h1
      subst h1
      simp only [binOp_ne_bool, Sem.run_bind, run_equal_bool hT hi hd, Result.andThen_ok, Sem.run_pure]
    · cases h1
  · rename_i a n c b n' c'
    obtain ⟨i, hi, h1⟩ := Option.bind_eq_some_iff.1 h
    clear h
    split at h1
    · rename_i e hd
      simp only [Option.some.injEq] at h1
      subst h1
      simp only [binOp_eq_sl, Sem.run_bind, run_equal_sl hT hi hd, Result.andThen_ok, Sem.run_pure]
    · rename_i e hd
      simp only [Option.some.injEq] at h1
      subst h1
      simp only [binOp_ne_sl, Sem.run_bind, run_equal_sl hT hi hd, Result.andThen_ok, Sem.run_pure]
    · rename_i e _ hd
      simp only [Option.some.injEq] at h1
      subst h1
      simp only [binOp_eq_sl, Sem.run_bind, run_equal_sl' hT hi hd, Result.andThen_ok, Sem.run_pure]
    · rename_i e _ hd
      simp only [Option.some.injEq] at h1
      subst h1
      simp only [binOp_ne_sl, Sem.run_bind, run_equal_sl' hT hi hd, Result.andThen_ok, Sem.run_pure, Bool.not_false]
    · cases h1
  · rename_i xs ys
    obtain ⟨i, hi, h1⟩ := Option.bind_eq_some_iff.1 h
    clear h
    split at h1
    · rename_i n e hd
      obtain ⟨j, hj, h2⟩ := Option.bind_eq_some_iff.1 h1
      clear h1
      split at h2
      · rename_i k hk
        obtain ⟨us, hx, h3⟩ := Option.bind_eq_some_iff.1 h2
        obtain ⟨vs, hy, h4⟩ := Option.bind_eq_some_iff.1 h3
        split at h4
        · rename_i hc
          simp only [Option.some.injEq] at h4
          subst h4
          simp only [binOp_eq_agg, Sem.run_bind, run_equal_arr hT hi hd hj hk hc.2.2 hx hy hc.1 hc.2.1, Result.andThen_ok, Sem.run_pure]
        · cases h4
      · cases h2
    · rename_i n e hd
      obtain ⟨j, hj, h2⟩ := Option.bind_eq_some_iff.1 h1
      clear h1
      split at h2
      · rename_i k hk
        obtain ⟨us, hx, h3⟩ := Option.bind_eq_some_iff.1 h2
        obtain ⟨vs, hy, h4⟩ := Option.bind_eq_some_iff.1 h3
        split at h4
        · rename_i hc
          simp only [Option.some.injEq] at h4
          subst h4
          simp only [binOp_ne_agg, Sem.run_bind, run_equal_arr hT hi hd hj hk hc.2.2 hx hy hc.1 hc.2.1, Result.andThen_ok, Sem.run_pure]
        · cases h4
      · cases h2
    · cases h1
  · rename_i a b
    unfold strV at h
    split at h
    · split at h
      · cases h
      · rename_i hc
        simp only [Option.some.injEq] at h
        subst h
        have hm : IntKind.i64.max = 9223372036854775807 := by decide
        rw [hm] at hc
        simp [binOp, Op.stringOp]
        omega
    · simp only [Option.some.injEq] at h
      subst h
      simp [binOp, Op.stringOp]
    · simp only [Option.some.injEq] at h
      subst h
      simp [binOp, Op.stringOp]
    · cases h
  · cases h
omit hT in
theorem run_unV {op : UnOp} {x v : Value} (w : World) (h : unV op x = some v) : (Op.unary op x).run P w = .ok v w := by
  unfold unV at h
  split at h
  · simp only [Option.some.injEq] at h; subst h; simp [Op.unary, Op.intArith]
  · simp only [Option.some.injEq] at h; subst h; simp [Op.unary]
  · cases h
end
end Go.Proofs.Ytkdnnfkdgmblgaa
