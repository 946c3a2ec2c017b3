/-
  The ground, fifth part: regions that draw their order: one order, planned, stands for all.
  Conditions: the program follows 'mixedOrders'; the plan passes a check that the kernel computes.
-/
import Derived.Test.YtkdnnfkdgmblgaaG3
set_option linter.unusedVariables false
set_option linter.unusedSimpArgs false
namespace Go.Proofs.Ytkdnnfkdgmblgaa
open Go

/-- What could be read still reads the same. -/
def HPres (h h' : Heap) : Prop := ∀ a v, hcell h a = some v → hcell h' a = some v
theorem HPres.refl (h : Heap) : HPres h h := fun _ _ e => e
theorem HPres.trans {a b c : Heap} (h : HPres a b) (k : HPres b c) : HPres a c := fun x v e => k x v (h x v e)
abbrev Pres (w w' : World) : Prop := HPres w.heap w'.heap

section
variable {P : Program} {ops : Array Oper} {Q : Exit → Act → World → Prop} {md : Region.Mode} {ds : List Nat}
def wpAnyR (P : Program) (md : Region.Mode) (ops : Array Oper) (Q : Exit → Act → World → Prop) (ds : List Nat) : Nat → Array Bool → Act → World → Prop
  | 0, listed, a, w => Region.ready md ops listed = [] ∧ Q .normal a w
  | fuel + 1, listed, a, w =>
    (Region.ready md ops listed = [] → Q .normal a w) ∧
    ∀ i ∈ Region.ready md ops listed, wpOp P ops Q i (fun a' w' => (i ∉ ds → Pres w w') ∧ wpAnyR P md ops Q ds fuel (listed.setIfInBounds i true) a' w') a w
theorem wpAny_of_R : ∀ (fuel : Nat) (listed : Array Bool) (a : Act) (w : World), wpAnyR P md ops Q ds fuel listed a w → wpAny P md ops Q fuel listed a w
  | 0, _, _, _, h => h
  | fuel + 1, _, _, _, h => ⟨h.1, fun i hi => wpOp_mono (fun a' w' h' => wpAny_of_R fuel _ a' w' h'.2) (h.2 i hi)⟩

/-- Operation d waits for operation i, by a chain of at most 'fuel' edges. -/
def reachB (md : Region.Mode) (ops : Array Oper) (i : Nat) : Nat → Nat → Bool
  | 0, _ => false
  | fuel + 1, d => match ops[d]? with
    | some o => o.after.any fun e => Region.binds md e && (e.on == i || reachB md ops i fuel e.on)
    | none => false
def closedB (md : Region.Mode) (ops : Array Oper) (listed : Array Bool) : Bool :=
  (List.range ops.size).all fun j => !listed.getD j false || match ops[j]? with
    | some o => o.after.all fun e => !Region.binds md e || listed.getD e.on false
    | none => true
def lastB (md : Region.Mode) (ops : Array Oper) (listed : Array Bool) (ds : List Nat) (i : Nat) : Bool :=
  ds.all fun d => listed.getD d true || reachB md ops i ops.size d
def Closed (md : Region.Mode) (ops : Array Oper) (listed : Array Bool) : Prop :=
  ∀ j oj, ops[j]? = some oj → listed.getD j false = true → ∀ e ∈ oj.after, Region.binds md e = true → listed.getD e.on false = true
theorem closedB_spec {listed : Array Bool} (h : closedB md ops listed = true) : Closed md ops listed := by
  intro j oj hj hl e he hb
  have hlt : j < ops.size := (Array.getElem?_eq_some_iff.1 hj).1
  have h1 := List.all_eq_true.1 h j (List.mem_range.2 hlt)
  simp only [hl, hj, Bool.not_true, Bool.false_or] at h1
  have h2 := Array.all_eq_true_iff_forall_mem.1 h1 e he
  simpa [hb] using h2
theorem Closed.set {listed : Array Bool} {i : Nat} (h : Closed md ops listed) (hi : i ∈ Region.ready md ops listed) : Closed md ops (listed.setIfInBounds i true) := by
  obtain ⟨_, oi, hoi, hall⟩ := mem_ready.1 hi
  intro j oj hj hl e he hb
  by_cases hij : i = j
  · subst hij
    have : oj = oi := Option.some.inj (hj.symm.trans hoi)
    subst this
    exact getD_set_true (hall e he hb)
  · rw [getD_set_ne false hij] at hl
    exact getD_set_true (h j oj hj hl e he hb)
theorem reach_listed {listed : Array Bool} {i : Nat} (hc : Closed md ops listed) : ∀ (fuel d : Nat), reachB md ops i fuel d = true → listed.getD d false = true → listed.getD i false = true
  | 0, _, h, _ => by simp [reachB] at h
  | fuel + 1, d, h, hl => by
    unfold reachB at h
    cases ho : ops[d]? with
    | none => rw [ho] at h; simp at h
    | some o =>
      rw [ho] at h
      obtain ⟨e, he, h1⟩ := Array.any_eq_true'.1 h
      simp only [Bool.and_eq_true, Bool.or_eq_true, beq_iff_eq] at h1
      have hle := hc d o ho hl e he h1.1
      rcases h1.2 with h2 | h2
      · rw [← h2]; exact hle
      · exact reach_listed hc fuel e.on h2 hle
theorem reach_not_ready {listed : Array Bool} {i d fuel : Nat} (hc : Closed md ops listed) (hr : reachB md ops i fuel d = true) (hun : listed.getD i true = false) : d ∉ Region.ready md ops listed := by
  intro hd
  obtain ⟨_, o, ho, hall⟩ := mem_ready.1 hd
  have hi : listed.getD i false = true := by
    cases fuel with
    | zero => simp [reachB] at hr
    | succ n =>
      unfold reachB at hr
      rw [ho] at hr
      obtain ⟨e, he, h1⟩ := Array.any_eq_true'.1 hr
      simp only [Bool.and_eq_true, Bool.or_eq_true, beq_iff_eq] at h1
      have hle := hall e he h1.1
      rcases h1.2 with h2 | h2
      · rw [← h2]; exact hle
      · exact reach_listed hc n e.on h2 hle
  rcases Nat.lt_or_ge i listed.size with h' | h'
  · simp [h'] at hun hi
    rw [hun] at hi
    cases hi
  · simp [Array.getElem?_eq_none h'] at hun

theorem yieldsIf_weaken {S S' : World → Prop} {o : Oper} {v : Value} {a : Act} (h : YieldsIf P ops S o v a) (hs : ∀ w, S' w → S w) : YieldsIf P ops S' o v a :=
  h.imp (fun ⟨hw, hv⟩ => ⟨hw, fun w hS => hv w (hs w hS)⟩) id

theorem wpAnyR_first {i : Nat} {oi : Oper} {v : Value} (hi : ops[i]? = some oi) (hsel : ∀ (j : Nat) (o : Oper) cs b, ops[j]? = some o → o.op ≠ .select cs b)
    (hQ : ∀ c a w, Q (.panic c) (a.put oi.dst v) w → Q (.panic c) a w) (n : Nat) :
    ∀ (fuel : Nat) (listed : Array Bool) (a : Act) (w : World),
      (∀ j oj, ops[j]? = some oj → j ≠ i → listed.getD j true = false → (∀ e ∈ oj.after, Region.binds md e = true → e.on ≠ i) → oi.apart ops oj = true) →
      Closed md ops listed → (∀ d ∈ ds, listed.getD d true = false → reachB md ops i n d = true) →
      i ∈ Region.ready md ops listed → YieldsIf P ops (Pres w) oi v a →
      wpAnyR P md ops Q ds fuel (listed.setIfInBounds i true) (a.put oi.dst v) w → wpAnyR P md ops Q ds (fuel + 1) listed a w := by
  intro fuel
  induction fuel with
  | zero =>
    intro listed a w _ _ _ hr hy H
    refine ⟨fun h => (by rw [h] at hr; cases hr), fun j hj => ?_⟩
    by_cases hji : j = i
    · subst hji; exact hy.wpOp hi (HPres.refl _) ⟨fun _ => HPres.refl _, H⟩
    · have := ready_mono hj hji
      rw [H.1] at this
      cases this
  | succ fuel ih =>
    intro listed a w hfree hc hd hr hy H
    refine ⟨fun h => (by rw [h] at hr; cases hr), fun j hj => ?_⟩
    by_cases hji : j = i
    · subst hji; exact hy.wpOp hi (HPres.refl _) ⟨fun _ => HPres.refl _, H⟩
    · have h1 := H.2 j (ready_mono hj hji)
      obtain ⟨hjun, oj, hoj, hall⟩ := mem_ready.1 hj
      have hiun := (mem_ready.1 hr).1
      have hnot : ∀ e ∈ oj.after, Region.binds md e = true → e.on ≠ i := fun e he hb heq => by
        have h1 := hall e he hb
        rw [heq] at h1
        rcases Nat.lt_or_ge i listed.size with h' | h'
        · simp [h'] at hiun h1; rw [hiun] at h1; cases h1
        · simp [Array.getElem?_eq_none h'] at h1
      have hjd : j ∉ ds := fun hm => reach_not_ready hc (hd j hm hjun) hiun hj
      have h2 := wpOp_putIf hoj (hfree j oj hoj hji hjun hnot) (fun cs b => hsel i oi cs b hi) (fun cs b => hsel j oj cs b hoj) hQ hy h1
      have hfree' : ∀ k ok, ops[k]? = some ok → k ≠ i → (listed.setIfInBounds j true).getD k true = false →
          (∀ e ∈ ok.after, Region.binds md e = true → e.on ≠ i) → oi.apart ops ok = true := fun k ok hk hki hun hno => by
        refine hfree k ok hk hki ?_ hno
        by_cases hjk : j = k
        · subst hjk; exact hjun
        · rw [getD_set_ne true hjk] at hun; exact hun
      have hd' : ∀ d ∈ ds, (listed.setIfInBounds j true).getD d true = false → reachB md ops i n d = true := fun d hm hun => by
        refine hd d hm ?_
        by_cases hjk : j = d
        · subst hjk; exact hjun
        · rw [getD_set_ne true hjk] at hun; exact hun
      refine wpOp_mono (fun a' w' h3 => ⟨h3.2.1, ih (listed.setIfInBounds j true) a' w' hfree' (hc.set hj) hd' (ready_mono hr (Ne.symm hji)) (yieldsIf_weaken h3.1 fun w2 hp => HPres.trans (h3.2.1 hjd) hp) ?_⟩) h2
      rw [Array.setIfInBounds_comm _ _ hji]
      exact h3.2.2

/-- The same for what does not read memory at all. -/
theorem wpAnyR_firstF {i : Nat} {oi : Oper} {v : Value} (hi : ops[i]? = some oi) (hsel : ∀ (j : Nat) (o : Oper) cs b, ops[j]? = some o → o.op ≠ .select cs b)
    (hQ : ∀ c a w, Q (.panic c) (a.put oi.dst v) w → Q (.panic c) a w) :
    ∀ (fuel : Nat) (listed : Array Bool) (a : Act) (w : World),
      (∀ j oj, ops[j]? = some oj → j ≠ i → listed.getD j true = false → (∀ e ∈ oj.after, Region.binds md e = true → e.on ≠ i) → oi.apart ops oj = true) →
      i ∈ Region.ready md ops listed → YieldsIf P ops (fun _ => True) oi v a →
      wpAnyR P md ops Q ds fuel (listed.setIfInBounds i true) (a.put oi.dst v) w → wpAnyR P md ops Q ds (fuel + 1) listed a w := by
  intro fuel
  induction fuel with
  | zero =>
    intro listed a w _ hr hy H
    refine ⟨fun h => (by rw [h] at hr; cases hr), fun j hj => ?_⟩
    by_cases hji : j = i
    · subst hji; exact hy.wpOp hi trivial ⟨fun _ => HPres.refl _, H⟩
    · have := ready_mono hj hji
      rw [H.1] at this
      cases this
  | succ fuel ih =>
    intro listed a w hfree hr hy H
    refine ⟨fun h => (by rw [h] at hr; cases hr), fun j hj => ?_⟩
    by_cases hji : j = i
    · subst hji; exact hy.wpOp hi trivial ⟨fun _ => HPres.refl _, H⟩
    · have h1 := H.2 j (ready_mono hj hji)
      obtain ⟨hjun, oj, hoj, hall⟩ := mem_ready.1 hj
      have hiun := (mem_ready.1 hr).1
      have hnot : ∀ e ∈ oj.after, Region.binds md e = true → e.on ≠ i := fun e he hb heq => by
        have h1 := hall e he hb
        rw [heq] at h1
        rcases Nat.lt_or_ge i listed.size with h' | h'
        · simp [h'] at hiun h1; rw [hiun] at h1; cases h1
        · simp [Array.getElem?_eq_none h'] at h1
      have h2 := wpOp_putIf hoj (hfree j oj hoj hji hjun hnot) (fun cs b => hsel i oi cs b hi) (fun cs b => hsel j oj cs b hoj) hQ hy h1
      have hfree' : ∀ k ok, ops[k]? = some ok → k ≠ i → (listed.setIfInBounds j true).getD k true = false →
          (∀ e ∈ ok.after, Region.binds md e = true → e.on ≠ i) → oi.apart ops ok = true := fun k ok hk hki hun hno => by
        refine hfree k ok hk hki ?_ hno
        by_cases hjk : j = k
        · subst hjk; exact hjun
        · rw [getD_set_ne true hjk] at hun; exact hun
      refine wpOp_mono (fun a' w' h3 => ⟨h3.2.1, ih (listed.setIfInBounds j true) a' w' hfree' (ready_mono hr (Ne.symm hji)) (yieldsIf_weaken h3.1 fun w2 _ => trivial) ?_⟩) h2
      rw [Array.setIfInBounds_comm _ _ hji]
      exact h3.2.2
def freeOp : Op → Bool
  | .move _ | .assign _ | .binOp .. | .slice .. | .fieldAddr .. | .indexAddr .. => true
  | _ => false
theorem freeOp_quiet {o : Op} (h : freeOp o = true) : freeOp o = true := h
/-- What waits for nobody's write: a plan's step. -/
def quietOp : Op → Bool
  | .move _ | .assign _ | .pick .. | .build .. | .load .. | .nilCheck _ | .binOp .. | .unOp .. | .convert .. | .makeFunc .. | .slice .. | .fieldAddr .. | .field .. | .indexAddr .. | .index .. | .extract .. => true
  | .call { callee := .builtin .len, .. } | .call { callee := .builtin .min, .. } | .call { callee := .builtin .max, .. } => true
  | _ => false
/-- The plan: (the operation's number, may it be taken first). -/
def planOk (md : Region.Mode) (ops : Array Oper) (ds : List Nat) : Array Bool → List (Nat × Bool) → Bool
  | l, [] => (Region.ready md ops l).isEmpty
  | l, (i, true) :: r => Region.free md ops l i && (Region.ready md ops l).contains i && closedB md ops l && (lastB md ops l ds i || (match ops[i]? with | some o => freeOp o.op | none => false)) && (match ops[i]? with | some o => quietOp o.op | none => false) && planOk md ops ds (l.setIfInBounds i true) r
  | l, (i, false) :: r => (Region.ready md ops l == [i]) && planOk md ops ds (l.setIfInBounds i true) r
end

theorem hcells_pres {h h' : Heap} (hp : HPres h h') (a : Addr) : ∀ (n i : Nat) (cs : List Value), hcells h a i n = some cs → hcells h' a i n = some cs
  | 0, i, cs, e => e
  | n + 1, i, cs, e => by
    simp only [hcells, Option.bind_eq_some_iff, Option.map_eq_some_iff] at e ⊢
    obtain ⟨v, hv, r, hr, rfl⟩ := e
    exact ⟨v, hp _ _ hv, r, hcells_pres hp a n (i + 1) r hr, rfl⟩
theorem loadV_pres {T : Tab} {h h' : Heap} (hp : HPres h h') {t : TypeId} {a : Addr} {v : Value} (e : loadV T h t a = some v) : loadV T h' t a = some v := by
  unfold loadV at e ⊢
  obtain ⟨i, hi, e⟩ := Option.bind_eq_some_iff.1 e
  refine Option.bind_eq_some_iff.2 ⟨i, hi, ?_⟩
  split at e
  · rename_i hg
    rw [if_pos hg]
    obtain ⟨cs, hc, e⟩ := Option.map_eq_some_iff.1 e
    exact Option.map_eq_some_iff.2 ⟨cs, hcells_pres hp a _ _ _ hc, e⟩
  · rename_i hg
    rw [if_neg hg]
    exact hp _ _ e

theorem convH_pres {T : Tab} {h h' : Heap} (hp : HPres h h') {s t : TypeId} {v u : Value} (e : convH T h s t v = some u) : convH T h' s t v = some u := by
  unfold convH at e ⊢
  split at e
  · rename_i ao m c
    obtain ⟨i, hi, e⟩ := Option.bind_eq_some_iff.1 e
    obtain ⟨j, hj, e⟩ := Option.bind_eq_some_iff.1 e
    refine Option.bind_eq_some_iff.2 ⟨i, hi, Option.bind_eq_some_iff.2 ⟨j, hj, ?_⟩⟩
    split at e
    · rename_i e' hd1 hd2
      obtain ⟨q, hq, e⟩ := Option.bind_eq_some_iff.1 e
      try rw [hd1, hd2]
      refine Option.bind_eq_some_iff.2 ⟨q, hq, ?_⟩
      split at e
      · rename_i hd3
        try rw [hd3]
        cases ao with
        | none => exact e
        | some a =>
        obtain ⟨cs, hcs, e⟩ := Option.bind_eq_some_iff.1 e
        exact Option.bind_eq_some_iff.2 ⟨cs, hcells_pres hp a _ _ _ hcs, e⟩
      · cases e
    · cases e
  · exact e

/-- A quiet operation's value, at any later world. -/
def quietV (P : Program) (o : Oper) (env : Env) (h : Heap) (v : Value) : Prop := ∀ w : World, HPres h w.heap → (execOp (ev env) o).run P w = .ok (.value v) w

/-- What a planned operation hands on: what could be read still reads the same, if it isn't one of the last. -/
def plK (i : Nat) (ds : List Nat) (h : Heap) (K : Env → Heap → Prop) : Env → Heap → Prop := fun env' h' => (ds.contains i = false → HPres h h') ∧ K env' h'
theorem plK_same {i : Nat} {ds : List Nat} {h : Heap} {K : Env → Heap → Prop} {env : Env} : plK i ds h K env h = K env h := by
  simp [plK, HPres.refl]
theorem plK_last {i : Nat} {ds : List Nat} {h h' : Heap} {K : Env → Heap → Prop} {env : Env} (hd : ds.contains i = true) (hk : K env h') : plK i ds h K env h' := ⟨fun e => (by rw [hd] at e; cases e), hk⟩
theorem plK_pres {i : Nat} {ds : List Nat} {h h' : Heap} {K : Env → Heap → Prop} {env : Env} (hp : HPres h h') (hk : K env h') : plK i ds h K env h' := ⟨fun _ => hp, hk⟩
def plansP (P : Program) (T : Tab) (n : Nat) (all : Array Oper) (ds : List Nat) : List (Nat × Bool) → (Env → Heap → Prop) → Env → Heap → Prop
  | [], K, env, h => K env h
  | (i, _) :: r, K, env, h => Bd all[i]? fun o => Gd (guardB all env o.guard) (opP P T n o (plK i ds h (plansP P T n all ds r K)) env h)
      (outv n o (plansP P T n all ds r K) env h undef)

section
variable {P : Program} {T : Tab} {n : Nat} (hT : TOk P T)
include hT

/-- A quiet operation: its rule gives its value, which any later world gives too. -/
theorem quiet_opP {o : Oper} {K : Env → Heap → Prop} {env : Env} {h : Heap} (hq : quietOp o.op = true) (hh : opP P T n o K env h) :
    ∃ v, quietV P o env h v ∧ outv n o K env h v := by
  unfold opP at hh
  split at hh
  · rename_i t x y ho; rw [ho] at hq; cases hq
  · rename_i c ho
    have hw : ∀ w : World, ∀ a, Agree n a env → True := fun _ _ _ => trivial
    rw [ho] at hq
    obtain ⟨callee, args, argTypes⟩ := c
    dsimp only at hh
    cases callee with
    | value f => cases hq
    | invoke r m => cases hq
    | builtin b =>
      cases b <;> (try (cases hq; done)) <;> dsimp only at hh
      case len =>
        obtain ⟨t, ht, hh⟩ := Bd_iff hh
        obtain ⟨x, hx, hh⟩ := Bd_iff hh
        obtain ⟨v, hv, hh⟩ := Bd_iff hh
        refine ⟨v, fun w _ => ?_, hh⟩
        unfold lenV at hv
        obtain ⟨i, hi, hv⟩ := Option.bind_eq_some_iff.1 hv
        unfold execOp
        simp only [ho, resolve, Sem.run_bind, Sem.run_pure, Result.andThen_ok, invoke, builtin, Builtin.len_, ht, Array.getElem?_map, hx, Option.map_some, run_under hT hi]
        split at hv
        · rename_i hd he
          simp only [Option.some.injEq] at hv; subst hv
          simp [hd, he, goInt]
        · rename_i hd he
          simp only [Option.some.injEq] at hv; subst hv
          simp [hd, he, goInt]
        · rename_i hd
          simp only [Option.some.injEq] at hv; subst hv
          simp [hd, goInt]
        · cases hv
      case min =>
        split at hh
        · rename_i x y hx
          obtain ⟨v, hv, hh⟩ := Bd_iff hh
          refine ⟨v, fun w _ => ?_, hh⟩
          have ec : args = #[x, y] := by rw [← hx]
          unfold execOp
          simp only [ho, resolve, Sem.run_bind, Sem.run_pure, Result.andThen_ok, invoke, builtin, Builtin.min_, ec, List.map_toArray, List.map_cons, List.map_nil]
          unfold minV at hv
          split at hv
          · rename_i e1 e2
            simp only [Option.some.injEq] at hv; subst hv
            simp [e1, e2, Builtin.min2]
          · cases hv
        · cases hh
      case max =>
        split at hh
        · rename_i x y hx
          obtain ⟨v, hv, hh⟩ := Bd_iff hh
          refine ⟨v, fun w _ => ?_, hh⟩
          have ec : args = #[x, y] := by rw [← hx]
          unfold execOp
          simp only [ho, resolve, Sem.run_bind, Sem.run_pure, Result.andThen_ok, invoke, builtin, Builtin.max_, ec, List.map_toArray, List.map_cons, List.map_nil]
          unfold maxV at hv
          split at hv
          · rename_i e1 e2
            simp only [Option.some.injEq] at hv; subst hv
            simp [e1, e2, Builtin.max2]
          · cases hv
        · cases hh
  · rename_i hns hnc
    · obtain ⟨r, hr, hz_⟩ := Bd_iff hh
      clear hh
      have hh := hz_
      clear hz_
      obtain ⟨v, h1⟩ := r
      have key : h1 = h ∧ ∀ h2, HPres h h2 → stepV T o.op env h2 = some (v, h2) := by
        cases hop : o.op <;> rw [hop] at hq hr <;> (try (cases hq; done)) <;> simp only [stepV] at hr ⊢
        case move x => simp only [Option.some.injEq, Prod.mk.injEq] at hr; obtain ⟨rfl, rfl⟩ := hr; exact ⟨rfl, fun _ _ => rfl⟩
        case assign x => simp only [Option.some.injEq, Prod.mk.injEq] at hr; obtain ⟨rfl, rfl⟩ := hr; exact ⟨rfl, fun _ _ => rfl⟩
        case load t x =>
          obtain ⟨a, ha, hr⟩ := Option.bind_eq_some_iff.1 hr
          obtain ⟨u, hu, hr⟩ := Option.map_eq_some_iff.1 hr
          simp only [Prod.mk.injEq] at hr; obtain ⟨rfl, rfl⟩ := hr
          exact ⟨rfl, fun h2 hp => by simp [ha, loadV_pres hp hu]⟩
        case makeFunc fn f c => simp only [Option.some.injEq, Prod.mk.injEq] at hr; obtain ⟨rfl, rfl⟩ := hr; exact ⟨rfl, fun _ _ => rfl⟩
        case convert s d x =>
          obtain ⟨u, hu, hr⟩ := Option.map_eq_some_iff.1 hr
          simp only [Prod.mk.injEq] at hr; obtain ⟨rfl, rfl⟩ := hr
          exact ⟨rfl, fun h2 hp => by rw [convH_pres hp hu]; rfl⟩
        case call c => exact (hnc c hop).elim
        all_goals
          obtain ⟨u, hu, hr⟩ := Option.map_eq_some_iff.1 hr
          simp only [Prod.mk.injEq] at hr; obtain ⟨rfl, rfl⟩ := hr
          exact ⟨rfl, fun _ _ => by rw [hu]; rfl⟩
      obtain ⟨rfl, hk⟩ := key
      refine ⟨v, fun w hp => ?_, hh⟩
      have := exec_stepV hT (o := o) w (hk w.heap hp)
      exact this

theorem free_opP {o : Oper} {K : Env → Heap → Prop} {env : Env} {h : Heap} (hq : freeOp o.op = true) (hh : opP P T n o K env h) :
    ∃ v, (∀ w : World, (execOp (ev env) o).run P w = .ok (.value v) w) ∧ outv n o K env h v := by
  unfold opP at hh
  split at hh
  · rename_i t x y ho; rw [ho] at hq; cases hq
  · rename_i c ho; rw [ho] at hq; cases hq
  · obtain ⟨r, hr, hz_⟩ := Bd_iff hh
    clear hh
    have hh := hz_
    clear hz_
    obtain ⟨v, h1⟩ := r
    have key : h1 = h ∧ ∀ h2, stepV T o.op env h2 = some (v, h2) := by
      cases hop : o.op <;> rw [hop] at hq hr <;> (try (cases hq; done)) <;> simp only [stepV] at hr ⊢
      case move x => simp only [Option.some.injEq, Prod.mk.injEq] at hr; obtain ⟨rfl, rfl⟩ := hr; exact ⟨rfl, fun _ => rfl⟩
      case assign x => simp only [Option.some.injEq, Prod.mk.injEq] at hr; obtain ⟨rfl, rfl⟩ := hr; exact ⟨rfl, fun _ => rfl⟩
      all_goals
        obtain ⟨u, hu, hr⟩ := Option.map_eq_some_iff.1 hr
        simp only [Prod.mk.injEq] at hr; obtain ⟨rfl, rfl⟩ := hr
        exact ⟨rfl, fun _ => by rw [hu]; rfl⟩
    obtain ⟨rfl, hk⟩ := key
    exact ⟨v, fun w => exec_stepV hT (o := o) w (hk w.heap), hh⟩

theorem plan_sound {ops : Array Oper} {ds : List Nat} {Q : Exit → Env → Heap → Prop} {w0 : World} (hsel : Region.noSelect ops = true) (hQ : ∀ c env h, Q (.panic c) env h → False) :
    ∀ (pl : List (Nat × Bool)) (fuel : Nat) (listed : Array Bool) (env : Env) (a : Act) (w : World), pl.length ≤ fuel → planOk .any ops ds listed pl = true → Agree n a env → Fr w0 w →
      plansP P T n ops ds pl (Q .normal) env w.heap → wpAnyR P .any ops (KQ n w0 Q) ds fuel listed a w
  | [], fuel, listed, env, a, w, hl, hok, ha, hf, h => by
    have hr : Region.ready .any ops listed = [] := by simpa [planOk] using hok
    cases fuel with
    | zero => exact ⟨hr, env, ha, hf, h⟩
    | succ f => exact ⟨fun _ => ⟨env, ha, hf, h⟩, by rw [hr]; intro i hi; cases hi⟩
  | (i, first) :: r, fuel, listed, env, a, w, hl, hok, ha, hf, h => by
    obtain ⟨fuel, rfl⟩ : ∃ f, fuel = f + 1 := ⟨fuel - 1, by simp at hl; omega⟩
    simp only [plansP] at h
    obtain ⟨o, ho, h⟩ := Bd_iff h
    unfold Gd at h
    · skip
      have hpan : ∀ (v : Value) (c : List PanicEntry) (a : Act) (w : World), KQ n w0 Q (.panic c) (a.put o.dst v) w → KQ n w0 Q (.panic c) a w := by
        rintro v c a w ⟨env, _, _, hq⟩
        exact (hQ c env _ hq).elim
      cases first with
      | true =>
        simp only [planOk, Bool.and_eq_true] at hok
        obtain ⟨⟨⟨⟨⟨h1, h2⟩, h3⟩, h4⟩, h5⟩, h6⟩ := hok
        rw [ho] at h5
        dsimp only at h5
        by_cases hfr : freeOp o.op = true
        · have hyld : ∃ v, YieldsIf P ops (fun _ => True) o v a ∧ outv n o (fun env' h' => plansP P T n ops ds r (Q .normal) env' h') env w.heap v := by
            split at h
            · rename_i hg
              obtain ⟨v, hv, hk⟩ := free_opP hT hfr h
              refine ⟨v, .inl ⟨by rw [wanted_guard ha]; exact hg, fun w' _ => by rw [ha.eval]; exact hv w'⟩, hk.1, hk.2.2⟩
            · rename_i hg
              exact ⟨undef, .inr ⟨by rw [wanted_guard ha]; simpa using hg, rfl⟩, h⟩
          obtain ⟨v, hy, hk⟩ := hyld
          refine wpAnyR_firstF ho (Region.noSelect_spec hsel) (hpan v) fuel listed a w (Region.free_spec ho h1) (by simpa using h2) hy ?_
          exact plan_sound hsel hQ r fuel (listed.setIfInBounds i true) _ _ w (by simp at hl; omega) h6 (ha.putO (dstB_spec hk.1) v) hf hk.2
        replace h4 : lastB .any ops listed ds i = true := by
          rw [ho] at h4
          simpa [hfr] using h4
        have hyld : ∃ v, YieldsIf P ops (Pres w) o v a ∧ outv n o (fun env' h' => plansP P T n ops ds r (Q .normal) env' h') env w.heap v := by
          split at h
          · rename_i hg
            obtain ⟨v, hv, hk⟩ := quiet_opP hT h5 h
            refine ⟨v, .inl ⟨by rw [wanted_guard ha]; exact hg, fun w' hp => by rw [ha.eval]; exact hv w' hp⟩, hk.1, hk.2.2⟩
          · rename_i hg
            exact ⟨undef, .inr ⟨by rw [wanted_guard ha]; simpa using hg, rfl⟩, h⟩
        obtain ⟨v, hy, hk⟩ := hyld
        refine wpAnyR_first ho (Region.noSelect_spec hsel) (hpan v) ops.size fuel listed a w (Region.free_spec ho h1) (closedB_spec h3)
          (fun d hm hun => by have := List.all_eq_true.1 h4 d hm; rw [hun] at this; simpa using this) (by simpa using h2) hy ?_
        exact plan_sound hsel hQ r fuel (listed.setIfInBounds i true) _ _ w (by simp at hl; omega) h6 (ha.putO (dstB_spec hk.1) v) hf hk.2
      | false =>
        simp only [planOk, Bool.and_eq_true, beq_iff_eq] at hok
        obtain ⟨h1, h6⟩ := hok
        refine ⟨(by rw [h1]; intro h; cases h), ?_⟩
        rw [h1]
        intro j hj
        simp only [List.mem_singleton] at hj
        subst hj
        unfold wpOp
        simp only [ho]
        rw [wanted_guard ha]
        split at h
        · rename_i hg
          simp only [hg, if_true]
          refine .inl (Oper.wp_mono ?_ (opP_sound hT ha h))
          rintro a' w' ⟨env', ha', hf', hp, hk⟩
          exact ⟨fun hd => hp (by simpa using hd), plan_sound hsel hQ r fuel (listed.setIfInBounds j true) env' a' w' (by simp at hl; omega) h6 ha' (hf.trans hf') hk⟩
        · rename_i hg
          simp only [hg]
          exact ⟨fun _ => HPres.refl _, plan_sound hsel hQ r fuel (listed.setIfInBounds j true) _ _ w (by simp at hl; omega) h6 (ha.putO (dstB_spec h.1) undef) hf h.2⟩

theorem den_draw {id : Nat} {ops : Array Oper} {Qr : Env → Heap → Prop} {k : List It} {env : Env} {h : Heap} (hm : P.follows .mixedOrders = true) (ds : List Nat) (pl : List (Nat × Bool))
    (hok : (Region.noSelect ops && decide (pl.length ≤ ops.size) && planOk .any ops ds (Array.replicate ops.size false) pl) = true)
    (hh : ∀ K : Env → Heap → Prop, (∀ env h, den P n Qr k env h → K env h) → plansP P T n ops ds pl K env h) : den P n Qr (.code (.region id ops true) :: k) env h := by
  refine den_code ?_
  intro a w ha e
  subst e
  simp only [Bool.and_eq_true, decide_eq_true_eq] at hok
  obtain ⟨⟨h1, h2⟩, h3⟩ := hok
  refine wp_region_any hm (wpAny_of_R (ds := ds) _ _ _ _ ?_)
  exact plan_sound hT h1 (Q := denQ P n Qr k) (w0 := w) (fun c env h hq => hq) pl ops.size _ env a { w with drawn := w.drawn + 1 } h2 h3 ha ⟨rfl, rfl, rfl⟩ (hh _ (fun _ _ h => h))
end
end Go.Proofs.Ytkdnnfkdgmblgaa
