/-
  The ground: regions that draw their order, where a store stands open to loads of other blocks: the loads may be taken first.
  Conditions: the program follows 'mixedOrders'; the plan passes a check that the kernel computes.
-/
import Derived.Test.YtacajcjibhifmaaG13
set_option linter.unusedVariables false
set_option linter.unusedSimpArgs false
namespace Go.Proofs.Ytacajcjibhifmaa
open Go
/-- What could be read outside the blocks B still reads the same. -/
def HPb (B : List Nat) (h h' : Heap) : Prop := ∀ a v, a.block ∉ B → hcell h a = some v → hcell h' a = some v
theorem HPb.refl {B : List Nat} (h : Heap) : HPb B h h := fun _ _ _ e => e
theorem HPb.trans {B : List Nat} {a b c : Heap} (h : HPb B a b) (k : HPb B b c) : HPb B a c := fun x v n e => k x v n (h x v n e)
theorem HPres.pb {B : List Nat} {h h' : Heap} (p : HPres h h') : HPb B h h' := fun x v _ e => p x v e
theorem Chg.pb {B fp : List Nat} {h h' : Heap} (c : Chg fp h h') (hs : ∀ b ∈ fp, b ∈ B) : HPb B h h' := fun x v n e => by
  rw [hcell_block (c.block _ (hcell_lt e) fun hm => n (hs _ hm))]; exact e
/-- A load's address lies outside B. -/
def ldA (B : List Nat) : Option Addr → Prop
  | some a => a.block ∉ B
  | none => True
def ldOk (B : List Nat) (o : Oper) (env : Env) : Prop := match o.op with
  | .load _ x => ldA B (asAd (ev env x))
  | _ => True
section
variable {P : Program} {ops : Array Oper} {Q : Exit → Act → World → Prop} {md : Region.Mode} {ds : List Nat} {B : List Nat}
def wpAnyB (B : List Nat) (P : Program) (md : Region.Mode) (ops : Array Oper) (Q : Exit → Act → World → Prop) (ds : List Nat) : Nat → Array Bool → Act → World → Prop
  | 0, listed, a, w => Region.ready md ops listed = [] ∧ Q .normal a w
  | fuel + 1, listed, a, w =>
    (Region.ready md ops listed = [] → Q .normal a w) ∧
    ∀ i ∈ Region.ready md ops listed, wpOp P ops Q i (fun a' w' => (i ∉ ds → HPb B w.heap w'.heap) ∧ wpAnyB B P md ops Q ds fuel (listed.setIfInBounds i true) a' w') a w
theorem wpAny_of_B : ∀ (fuel : Nat) (listed : Array Bool) (a : Act) (w : World), wpAnyB B P md ops Q ds fuel listed a w → wpAny P md ops Q fuel listed a w
  | 0, _, _, _, h => h
  | fuel + 1, _, _, _, h => ⟨h.1, fun i hi => wpOp_mono (fun a' w' h' => wpAny_of_B fuel _ a' w' h'.2) (h.2 i hi)⟩


theorem wpAnyB_first {i : Nat} {oi : Oper} {v : Value} (hi : ops[i]? = some oi) (hsel : ∀ (j : Nat) (o : Oper) cs b, ops[j]? = some o → o.op ≠ .select cs b)
    (hQ : ∀ c a w, Q (.panic c) (a.put oi.dst v) w → Q (.panic c) a w) (n : Nat) :
    ∀ (fuel : Nat) (listed : Array Bool) (a : Act) (w : World),
      (∀ j oj, ops[j]? = some oj → j ≠ i → listed.getD j true = false → (∀ e ∈ oj.after, Region.binds md e = true → e.on ≠ i) → oi.apart ops oj = true) →
      Closed md ops listed → (∀ d ∈ ds, listed.getD d true = false → reachB md ops i n d = true) →
      i ∈ Region.ready md ops listed → YieldsIf P ops (fun w_ => HPb B w.heap w_.heap) oi v a →
      wpAnyB B P md ops Q ds fuel (listed.setIfInBounds i true) (a.put oi.dst v) w → wpAnyB B P md ops Q ds (fuel + 1) listed a w := by
  intro fuel
  induction fuel with
  | zero =>
    intro listed a w _ _ _ hr hy H
    refine ⟨fun h => (by rw [h] at hr; cases hr), fun j hj => ?_⟩
    by_cases hji : j = i
    · subst hji; exact hy.wpOp hi (HPb.refl _) ⟨fun _ => HPb.refl _, H⟩
    · have := ready_mono hj hji
      rw [H.1] at this
      cases this
  | succ fuel ih =>
    intro listed a w hfree hc hd hr hy H
    refine ⟨fun h => (by rw [h] at hr; cases hr), fun j hj => ?_⟩
    by_cases hji : j = i
    · subst hji; exact hy.wpOp hi (HPb.refl _) ⟨fun _ => HPb.refl _, H⟩
    · have h1 := H.2 j (ready_mono hj hji)
      obtain ⟨hjun, oj, hoj, hall⟩ := mem_ready.1 hj
      have hiun := (mem_ready.1 hr).1
      have hnot : ∀ e ∈ oj.after, Region.binds md e = true → e.on ≠ i := fun e he hb heq => by
        have h1 := hall e he hb
        rw [heq] at h1
        rcases Nat.lt_or_ge i listed.size with h' | h'
        · simp [h'] at hiun h1; rw [hiun] at h1; cases h1
        · simp [Array.getElem?_eq_none h'] at h1
      have hjd : j ∉ ds := fun hm => reach_not_ready hc (hd j hm hjun) hiun hj
      have h2 := wpOp_putIf hoj (hfree j oj hoj hji hjun hnot) (fun cs b => hsel i oi cs b hi) (fun cs b => hsel j oj cs b hoj) hQ hy h1
      have hfree' : ∀ k ok, ops[k]? = some ok → k ≠ i → (listed.setIfInBounds j true).getD k true = false →
          (∀ e ∈ ok.after, Region.binds md e = true → e.on ≠ i) → oi.apart ops ok = true := fun k ok hk hki hun hno => by
        refine hfree k ok hk hki ?_ hno
        by_cases hjk : j = k
        · subst hjk; exact hjun
        · rw [getD_set_ne true hjk] at hun; exact hun
      have hd' : ∀ d ∈ ds, (listed.setIfInBounds j true).getD d true = false → reachB md ops i n d = true := fun d hm hun => by
        refine hd d hm ?_
        by_cases hjk : j = d
        · subst hjk; exact hjun
        · rw [getD_set_ne true hjk] at hun; exact hun
      refine wpOp_mono (fun a' w' h3 => ⟨h3.2.1, ih (listed.setIfInBounds j true) a' w' hfree' (hc.set hj) hd' (ready_mono hr (Ne.symm hji)) (yieldsIf_weaken h3.1 fun w2 hp => HPb.trans (h3.2.1 hjd) hp) ?_⟩) h2
      rw [Array.setIfInBounds_comm _ _ hji]
      exact h3.2.2

/-- The same for what does not read memory at all. -/
theorem wpAnyB_firstF {i : Nat} {oi : Oper} {v : Value} (hi : ops[i]? = some oi) (hsel : ∀ (j : Nat) (o : Oper) cs b, ops[j]? = some o → o.op ≠ .select cs b)
    (hQ : ∀ c a w, Q (.panic c) (a.put oi.dst v) w → Q (.panic c) a w) :
    ∀ (fuel : Nat) (listed : Array Bool) (a : Act) (w : World),
      (∀ j oj, ops[j]? = some oj → j ≠ i → listed.getD j true = false → (∀ e ∈ oj.after, Region.binds md e = true → e.on ≠ i) → oi.apart ops oj = true) →
      i ∈ Region.ready md ops listed → YieldsIf P ops (fun _ => True) oi v a →
      wpAnyB B P md ops Q ds fuel (listed.setIfInBounds i true) (a.put oi.dst v) w → wpAnyB B P md ops Q ds (fuel + 1) listed a w := by
  intro fuel
  induction fuel with
  | zero =>
    intro listed a w _ hr hy H
    refine ⟨fun h => (by rw [h] at hr; cases hr), fun j hj => ?_⟩
    by_cases hji : j = i
    · subst hji; exact hy.wpOp hi trivial ⟨fun _ => HPb.refl _, H⟩
    · have := ready_mono hj hji
      rw [H.1] at this
      cases this
  | succ fuel ih =>
    intro listed a w hfree hr hy H
    refine ⟨fun h => (by rw [h] at hr; cases hr), fun j hj => ?_⟩
    by_cases hji : j = i
    · subst hji; exact hy.wpOp hi trivial ⟨fun _ => HPb.refl _, H⟩
    · have h1 := H.2 j (ready_mono hj hji)
      obtain ⟨hjun, oj, hoj, hall⟩ := mem_ready.1 hj
      have hiun := (mem_ready.1 hr).1
      have hnot : ∀ e ∈ oj.after, Region.binds md e = true → e.on ≠ i := fun e he hb heq => by
        have h1 := hall e he hb
        rw [heq] at h1
        rcases Nat.lt_or_ge i listed.size with h' | h'
        · simp [h'] at hiun h1; rw [hiun] at h1; cases h1
        · simp [Array.getElem?_eq_none h'] at h1
      have h2 := wpOp_putIf hoj (hfree j oj hoj hji hjun hnot) (fun cs b => hsel i oi cs b hi) (fun cs b => hsel j oj cs b hoj) hQ hy h1
      have hfree' : ∀ k ok, ops[k]? = some ok → k ≠ i → (listed.setIfInBounds j true).getD k true = false →
          (∀ e ∈ ok.after, Region.binds md e = true → e.on ≠ i) → oi.apart ops ok = true := fun k ok hk hki hun hno => by
        refine hfree k ok hk hki ?_ hno
        by_cases hjk : j = k
        · subst hjk; exact hjun
        · rw [getD_set_ne true hjk] at hun; exact hun
      refine wpOp_mono (fun a' w' h3 => ⟨h3.2.1, ih (listed.setIfInBounds j true) a' w' hfree' (ready_mono hr (Ne.symm hji)) (yieldsIf_weaken h3.1 fun w2 _ => trivial) ?_⟩) h2
      rw [Array.setIfInBounds_comm _ _ hji]
      exact h3.2.2

end
theorem hcells_pb {B : List Nat} {h h' : Heap} (hp : HPb B h h') (a : Addr) (ha : a.block ∉ B) : ∀ (n i : Nat) (cs : List Value), hcells h a i n = some cs → hcells h' a i n = some cs
  | 0, i, cs, e => e
  | n + 1, i, cs, e => by
    simp only [hcells, Option.bind_eq_some_iff, Option.map_eq_some_iff] at e ⊢
    obtain ⟨v, hv, r, hr, rfl⟩ := e
    exact ⟨v, hp _ _ (by unfold Addr.add; split <;> exact ha) hv, r, hcells_pb hp a ha n (i + 1) r hr, rfl⟩
theorem loadV_pb {B : List Nat} {T : Tab} {h h' : Heap} (hp : HPb B h h') {t : TypeId} {a : Addr} (ha : a.block ∉ B) {v : Value} (e : loadV T h t a = some v) : loadV T h' t a = some v := by
  unfold loadV at e ⊢
  obtain ⟨i, hi, e⟩ := Option.bind_eq_some_iff.1 e
  refine Option.bind_eq_some_iff.2 ⟨i, hi, ?_⟩
  split at e
  · rename_i hg
    rw [if_pos hg]
    obtain ⟨cs, hc, e⟩ := Option.map_eq_some_iff.1 e
    exact Option.map_eq_some_iff.2 ⟨cs, hcells_pb hp a ha _ _ _ hc, e⟩
  · rename_i hg
    rw [if_neg hg]
    exact hp _ _ ha e
def plKb (B : List Nat) (i : Nat) (ds : List Nat) (h : Heap) (K : Env → Heap → Prop) : Env → Heap → Prop := fun env' h' => (ds.contains i = false → HPb B h h') ∧ K env' h'
theorem plKb_same {B : List Nat} {i : Nat} {ds : List Nat} {h : Heap} {K : Env → Heap → Prop} {env : Env} : plKb B i ds h K env h = K env h := by
  simp [plKb, HPb.refl]
theorem plKb_last {B : List Nat} {i : Nat} {ds : List Nat} {h h' : Heap} {K : Env → Heap → Prop} {env : Env} (hd : ds.contains i = true) (hk : K env h') : plKb B i ds h K env h' := ⟨fun e => (by rw [hd] at e; cases e), hk⟩
theorem plKb_pres {B : List Nat} {i : Nat} {ds : List Nat} {h h' : Heap} {K : Env → Heap → Prop} {env : Env} (hp : HPb B h h') (hk : K env h') : plKb B i ds h K env h' := ⟨fun _ => hp, hk⟩
def plansB (B : List Nat) (P : Program) (T : Tab) (n : Nat) (all : Array Oper) (ds : List Nat) : List (Nat × Bool) → (Env → Heap → Prop) → Env → Heap → Prop
  | [], K, env, h => K env h
  | (i, _) :: r, K, env, h => Bd all[i]? fun o => o.guard = none ∧ ldOk B o env ∧ opP P T n o (plKb B i ds h (plansB B P T n all ds r K)) env h

theorem plansB_nil {B : List Nat} {P : Program} {T : Tab} {n : Nat} {all : Array Oper} {ds : List Nat} {K : Env → Heap → Prop} {env : Env} {h : Heap} : plansB B P T n all ds [] K env h = K env h := rfl
def plGb (B : List Nat) (P : Program) (T : Tab) (n : Nat) (all : Array Oper) (ds : List Nat) (i : Nat) (o : Oper) (l : List (Nat × Bool)) (K : Env → Heap → Prop) (env : Env) (h : Heap) : Prop := o.guard = none ∧ ldOk B o env ∧ opP P T n o (plKb B i ds h (plansB B P T n all ds l K)) env h
theorem plansB_cons {B : List Nat} {P : Program} {T : Tab} {n : Nat} {all : Array Oper} {ds : List Nat} {i : Nat} {b : Bool} {l : List (Nat × Bool)} {K : Env → Heap → Prop} {env : Env} {h : Heap} : plansB B P T n all ds ((i, b) :: l) K env h = Bd (opAt all i) fun o => plGb B P T n all ds i o l K env h := rfl
theorem plGb_none {B : List Nat} {P : Program} {T : Tab} {n : Nat} {all : Array Oper} {ds : List Nat} {i : Nat} {d : Option Tmp} {op : Op} {ty : TypeId} {p : String} {a : Array Edge} {l : List (Nat × Bool)} {K : Env → Heap → Prop} {env : Env} {h : Heap} : plGb B P T n all ds i ⟨d, op, ty, p, a, none⟩ l K env h = (ldOk B ⟨d, op, ty, p, a, none⟩ env ∧ opP P T n ⟨d, op, ty, p, a, none⟩ (plKb B i ds h (plansB B P T n all ds l K)) env h) := by
  unfold plGb
  exact propext ⟨fun h => h.2, fun h => ⟨rfl, h⟩⟩
@[congr] theorem plGb_congr {B : List Nat} {P : Program} {T : Tab} {n : Nat} {all : Array Oper} {ds : List Nat} {i : Nat} {o : Oper} {l : List (Nat × Bool)} {K : Env → Heap → Prop} {env : Env} {h h' : Heap} (e : h = h') : plGb B P T n all ds i o l K env h = plGb B P T n all ds i o l K env h' := by rw [e]
@[congr] theorem plansB_congr {B : List Nat} {P : Program} {T : Tab} {n : Nat} {all : Array Oper} {ds : List Nat} {l : List (Nat × Bool)} {K : Env → Heap → Prop} {env : Env} {h h' : Heap} (e : h = h') : plansB B P T n all ds l K env h = plansB B P T n all ds l K env h' := by rw [e]
@[congr] theorem ldOk_congr {B : List Nat} {o : Oper} {env : Env} : ldOk B o env = ldOk B o env := rfl
section
variable {P : Program} {T : Tab} {n : Nat} (hT : TOk P T)
include hT
/-- A quiet operation: its rule gives its value, which any later world gives too. -/
theorem quiet_opB {B : List Nat} {o : Oper} {K : Env → Heap → Prop} {env : Env} {h : Heap} (hq : quietOp o.op = true) (hld : ldOk B o env) (hh : opP P T n o K env h) :
    ∃ v, (∀ w : World, HPb B h w.heap → (execOp (ev env) o).run P w = .ok (.value v) w) ∧ outv n o K env h v := by
  unfold opP at hh
  split at hh
  · rename_i t x y ho; rw [ho] at hq; cases hq
  · rename_i c ho
    have hw : ∀ w : World, ∀ a, Agree n a env → True := fun _ _ _ => trivial
    rw [ho] at hq
    obtain ⟨callee, args, argTypes⟩ := c
    dsimp only at hh
    cases callee with
    | value f => cases hq
    | invoke r m => cases hq
    | builtin b =>
      cases b <;> (try (cases hq; done)) <;> dsimp only at hh
      case len =>
        obtain ⟨t, ht, hh⟩ := Bd_iff hh
        obtain ⟨x, hx, hh⟩ := Bd_iff hh
        obtain ⟨v, hv, hh⟩ := Bd_iff hh
        refine ⟨v, fun w _ => ?_, hh⟩
        unfold lenV at hv
        obtain ⟨i, hi, hv⟩ := Option.bind_eq_some_iff.1 hv
        unfold execOp
        simp only [ho, resolve, Sem.run_bind, Sem.run_pure, Result.andThen_ok, invoke, builtin, Builtin.len_, ht, Array.getElem?_map, hx, Option.map_some, run_under hT hi]
        split at hv
        · rename_i hd he
          simp only [Option.some.injEq] at hv; subst hv
          simp [hd, he, goInt]
        · rename_i hd he
          simp only [Option.some.injEq] at hv; subst hv
          simp [hd, he, goInt]
        · rename_i hd
          simp only [Option.some.injEq] at hv; subst hv
          simp [hd, goInt]
        · cases hv
      case min =>
        split at hh
        · rename_i x y hx
          obtain ⟨v, hv, hh⟩ := Bd_iff hh
          refine ⟨v, fun w _ => ?_, hh⟩
          have ec : args = #[x, y] := by rw [← hx]
          unfold execOp
          simp only [ho, resolve, Sem.run_bind, Sem.run_pure, Result.andThen_ok, invoke, builtin, Builtin.min_, ec, List.map_toArray, List.map_cons, List.map_nil]
          unfold minV at hv
          split at hv
          · rename_i e1 e2
            simp only [Option.some.injEq] at hv; subst hv
            simp [e1, e2, Builtin.min2]
          · cases hv
        · cases hh
      case max =>
        split at hh
        · rename_i x y hx
          obtain ⟨v, hv, hh⟩ := Bd_iff hh
          refine ⟨v, fun w _ => ?_, hh⟩
          have ec : args = #[x, y] := by rw [← hx]
          unfold execOp
          simp only [ho, resolve, Sem.run_bind, Sem.run_pure, Result.andThen_ok, invoke, builtin, Builtin.max_, ec, List.map_toArray, List.map_cons, List.map_nil]
          unfold maxV at hv
          split at hv
          · rename_i e1 e2
            simp only [Option.some.injEq] at hv; subst hv
            simp [e1, e2, Builtin.max2]
          · cases hv
        · cases hh
  · rename_i hns hnc
    · obtain ⟨r, hr, hz_⟩ := Bd_iff hh
      clear hh
      have hh := hz_
      clear hz_
      obtain ⟨v, h1⟩ := r
      have key : h1 = h ∧ ∀ h2, HPb B h h2 → stepV T o.op env h2 = some (v, h2) := by
        cases hop : o.op <;> rw [hop] at hq hr <;> (try (cases hq; done)) <;> simp only [stepV] at hr ⊢
        case move x => simp only [Option.some.injEq, Prod.mk.injEq] at hr; obtain ⟨rfl, rfl⟩ := hr; exact ⟨rfl, fun _ _ => rfl⟩
        case assign x => simp only [Option.some.injEq, Prod.mk.injEq] at hr; obtain ⟨rfl, rfl⟩ := hr; exact ⟨rfl, fun _ _ => rfl⟩
        case load t x =>
          obtain ⟨a, ha, hr⟩ := Option.bind_eq_some_iff.1 hr
          obtain ⟨u, hu, hr⟩ := Option.map_eq_some_iff.1 hr
          simp only [Prod.mk.injEq] at hr; obtain ⟨rfl, rfl⟩ := hr
          exact ⟨rfl, fun h2 hp => by unfold ldOk at hld; rw [hop] at hld; dsimp only at hld; rw [ha] at hld; simp [ha, loadV_pb hp hld hu]⟩
        case makeFunc fn f c => simp only [Option.some.injEq, Prod.mk.injEq] at hr; obtain ⟨rfl, rfl⟩ := hr; exact ⟨rfl, fun _ _ => rfl⟩
        case call c => exact (hnc c hop).elim
        all_goals
          obtain ⟨u, hu, hr⟩ := Option.map_eq_some_iff.1 hr
          simp only [Prod.mk.injEq] at hr; obtain ⟨rfl, rfl⟩ := hr
          exact ⟨rfl, fun _ _ => by rw [hu]; rfl⟩
      obtain ⟨rfl, hk⟩ := key
      refine ⟨v, fun w hp => ?_, hh⟩
      have := exec_stepV hT (o := o) w (hk w.heap hp)
      exact this

theorem plan_soundB {B : List Nat} {ops : Array Oper} {ds : List Nat} {Q : Exit → Env → Heap → Prop} {w0 : World} (hsel : Region.noSelect ops = true) (hQ : ∀ c env h, Q (.panic c) env h → False) :
    ∀ (pl : List (Nat × Bool)) (fuel : Nat) (listed : Array Bool) (env : Env) (a : Act) (w : World), pl.length ≤ fuel → planOk .any ops ds listed pl = true → Agree n a env → Fr w0 w →
      plansB B P T n ops ds pl (Q .normal) env w.heap → wpAnyB B P .any ops (KQ n w0 Q) ds fuel listed a w
  | [], fuel, listed, env, a, w, hl, hok, ha, hf, h => by
    have hr : Region.ready .any ops listed = [] := by simpa [planOk] using hok
    cases fuel with
    | zero => exact ⟨hr, env, ha, hf, h⟩
    | succ f => exact ⟨fun _ => ⟨env, ha, hf, h⟩, by rw [hr]; intro i hi; cases hi⟩
  | (i, first) :: r, fuel, listed, env, a, w, hl, hok, ha, hf, h => by
    obtain ⟨fuel, rfl⟩ : ∃ f, fuel = f + 1 := ⟨fuel - 1, by simp at hl; omega⟩
    simp only [plansB] at h
    obtain ⟨o, ho, h⟩ := Bd_iff h
    obtain ⟨hgd, hld, h⟩ := h
    · skip
      have hpan : ∀ (v : Value) (c : List PanicEntry) (a : Act) (w : World), KQ n w0 Q (.panic c) (a.put o.dst v) w → KQ n w0 Q (.panic c) a w := by
        rintro v c a w ⟨env, _, _, hq⟩
        exact (hQ c env _ hq).elim
      cases first with
      | true =>
        simp only [planOk, Bool.and_eq_true] at hok
        obtain ⟨⟨⟨⟨⟨h1, h2⟩, h3⟩, h4⟩, h5⟩, h6⟩ := hok
        rw [ho] at h5
        dsimp only at h5
        by_cases hfr : freeOp o.op = true
        · have hyld : ∃ v, YieldsIf P ops (fun _ => True) o v a ∧ outv n o (fun env' h' => plansB B P T n ops ds r (Q .normal) env' h') env w.heap v := by
            obtain ⟨v, hv, hk⟩ := free_opP hT hfr h
            exact ⟨v, .inl ⟨by rw [wanted_guard ha, hgd]; rfl, fun w' _ => by rw [ha.eval]; exact hv w'⟩, hk.1, hk.2.2⟩
          obtain ⟨v, hy, hk⟩ := hyld
          refine wpAnyB_firstF ho (Region.noSelect_spec hsel) (hpan v) fuel listed a w (Region.free_spec ho h1) (by simpa using h2) hy ?_
          exact plan_soundB hsel hQ r fuel (listed.setIfInBounds i true) _ _ w (by simp at hl; omega) h6 (ha.putO (dstB_spec hk.1) v) hf hk.2
        replace h4 : lastB .any ops listed ds i = true := by
          rw [ho] at h4
          simpa [hfr] using h4
        have hyld : ∃ v, YieldsIf P ops (fun w_ => HPb B w.heap w_.heap) o v a ∧ outv n o (fun env' h' => plansB B P T n ops ds r (Q .normal) env' h') env w.heap v := by
          obtain ⟨v, hv, hk⟩ := quiet_opB hT h5 hld h
          exact ⟨v, .inl ⟨by rw [wanted_guard ha, hgd]; rfl, fun w' hp => by rw [ha.eval]; exact hv w' hp⟩, hk.1, hk.2.2⟩
        obtain ⟨v, hy, hk⟩ := hyld
        refine wpAnyB_first ho (Region.noSelect_spec hsel) (hpan v) ops.size fuel listed a w (Region.free_spec ho h1) (closedB_spec h3)
          (fun d hm hun => by have := List.all_eq_true.1 h4 d hm; rw [hun] at this; simpa using this) (by simpa using h2) hy ?_
        exact plan_soundB hsel hQ r fuel (listed.setIfInBounds i true) _ _ w (by simp at hl; omega) h6 (ha.putO (dstB_spec hk.1) v) hf hk.2
      | false =>
        simp only [planOk, Bool.and_eq_true, beq_iff_eq] at hok
        obtain ⟨h1, h6⟩ := hok
        refine ⟨(by rw [h1]; intro h; cases h), ?_⟩
        rw [h1]
        intro j hj
        simp only [List.mem_singleton] at hj
        subst hj
        unfold wpOp
        simp only [ho]
        rw [wanted_guard ha, hgd]
        · skip
          refine .inl (Oper.wp_mono ?_ (opP_sound hT ha h))
          rintro a' w' ⟨env', ha', hf', hp, hk⟩
          exact ⟨fun hd => hp (by simpa using hd), plan_soundB hsel hQ r fuel (listed.setIfInBounds j true) env' a' w' (by simp at hl; omega) h6 ha' (hf.trans hf') hk⟩

theorem den_drawB {id : Nat} {ops : Array Oper} {Qr : Env → Heap → Prop} {k : List It} {env : Env} {h : Heap} (hm : P.follows .mixedOrders = true) (B : List Nat) (ds : List Nat) (pl : List (Nat × Bool))
    (hok : (Region.noSelect ops && decide (pl.length ≤ ops.size) && planOk .any ops ds (Array.replicate ops.size false) pl) = true)
    (hh : ∀ K : Env → Heap → Prop, (∀ env h, den P n Qr k env h → K env h) → plansB B P T n ops ds pl K env h) : den P n Qr (.code (.region id ops true) :: k) env h := by
  refine den_code ?_
  intro a w ha e
  subst e
  simp only [Bool.and_eq_true, decide_eq_true_eq] at hok
  obtain ⟨⟨h1, h2⟩, h3⟩ := hok
  refine wp_region_any hm (wpAny_of_B (B := B) (ds := ds) _ _ _ _ ?_)
  exact plan_soundB hT h1 (Q := denQ P n Qr k) (w0 := w) (fun c env h hq => hq) pl ops.size _ env a { w with drawn := w.drawn + 1 } h2 h3 ha ⟨rfl, rfl, rfl⟩ (hh _ (fun _ _ h => h))
end
attribute [go_sem] plansB_nil plansB_cons plKb_same
end Go.Proofs.Ytacajcjibhifmaa
