/-
  The ground: regions that draw their order, where two makers stand open to each other: both orders, by a plan that forks.
  Conditions: the program follows 'mixedOrders'; the plan passes a check that the kernel computes.
-/
import Derived.Test.YtkdnnfkdgmblgaaG7
set_option linter.unusedVariables false
set_option linter.unusedSimpArgs false
namespace Go.Proofs.Ytkdnnfkdgmblgaa
open Go
/-- A plan that forks: either of two operations comes first. -/
inductive PT where
  | fin : PT
  | fork (i : Nat) (li : List (Nat × Bool)) (ti : PT) (j : Nat) (lj : List (Nat × Bool)) (tj : PT) : PT
  | fork3 (i : Nat) (li : List (Nat × Bool)) (ti : PT) (j : Nat) (lj : List (Nat × Bool)) (tj : PT) (m : Nat) (lm : List (Nat × Bool)) (tm : PT) : PT
  | fork4 (i : Nat) (li : List (Nat × Bool)) (ti : PT) (j : Nat) (lj : List (Nat × Bool)) (tj : PT) (m : Nat) (lm : List (Nat × Bool)) (tm : PT) (o : Nat) (lo : List (Nat × Bool)) (tq : PT) : PT
def PT.size : PT → Nat
  | .fin => 0
  | .fork _ li ti _ lj tj => 1 + max (li.length + ti.size) (lj.length + tj.size)
  | .fork3 _ li ti _ lj tj _ lm tm => 1 + max (li.length + ti.size) (max (lj.length + tj.size) (lm.length + tm.size))
  | .fork4 _ li ti _ lj tj _ lm tm _ lo tq => 1 + max (li.length + ti.size) (max (lj.length + tj.size) (max (lm.length + tm.size) (lo.length + tq.size)))
/-- What waits for nobody's write, and is no load. -/
def freeE : Op → Bool
  | .move _ | .assign _ | .binOp .. | .fieldAddr .. | .indexAddr .. | .extract .. => true
  | _ => false
theorem free_opE {P : Program} {T : Tab} {n : Nat} (hT : TOk P T) {o : Oper} {K : Env → Heap → Prop} {env : Env} {h : Heap} (hq : freeE o.op = true) (hh : opP P T n o K env h) :
    ∃ v, (∀ w : World, (execOp (ev env) o).run P w = .ok (.value v) w) ∧ outv n o K env h v := by
  unfold opP at hh
  split at hh
  · rename_i t x y ho; rw [ho] at hq; cases hq
  · rename_i c ho; rw [ho] at hq; cases hq
  · obtain ⟨r, hr, hz_⟩ := Bd_iff hh
    clear hh
    have hh := hz_
    clear hz_
    obtain ⟨v, h1⟩ := r
    have key : h1 = h ∧ ∀ h2, stepV T o.op env h2 = some (v, h2) := by
      cases hop : o.op <;> rw [hop] at hq hr <;> (try (cases hq; done)) <;> simp only [stepV] at hr ⊢
      case move x => simp only [Option.some.injEq, Prod.mk.injEq] at hr; obtain ⟨rfl, rfl⟩ := hr; exact ⟨rfl, fun _ => rfl⟩
      case assign x => simp only [Option.some.injEq, Prod.mk.injEq] at hr; obtain ⟨rfl, rfl⟩ := hr; exact ⟨rfl, fun _ => rfl⟩
      all_goals
        obtain ⟨u, hu, hr⟩ := Option.map_eq_some_iff.1 hr
        simp only [Prod.mk.injEq] at hr; obtain ⟨rfl, rfl⟩ := hr
        exact ⟨rfl, fun _ => by rw [hu]; rfl⟩
    obtain ⟨rfl, hk⟩ := key
    exact ⟨v, fun w => exec_stepV hT (o := o) w (hk w.heap), hh⟩
def okL (md : Region.Mode) (ops : Array Oper) (ds : List Nat) : Array Bool → List (Nat × Bool) → Option (Array Bool)
  | l, [] => some l
  | l, (i, true) :: r => if (Region.free md ops l i && (Region.ready md ops l).contains i && closedB md ops l && (lastB md ops l ds i || (match ops[i]? with | some o => freeE o.op | none => false)) && (match ops[i]? with | some o => quietOp o.op | none => false)) = true then okL md ops ds (l.setIfInBounds i true) r else none
  | l, (i, false) :: r => if (Region.ready md ops l == [i]) = true then okL md ops ds (l.setIfInBounds i true) r else none
def okO {α : Type} (o : Option α) (f : α → Bool) : Bool := match o with
  | some a => f a
  | none => false
def okT (md : Region.Mode) (ops : Array Oper) (ds : List Nat) : Array Bool → PT → Bool
  | l, .fin => (Region.ready md ops l).isEmpty
  | l, .fork i li ti j lj tj => (Region.ready md ops l == [i, j]) && okO (okL md ops ds (l.setIfInBounds i true) li) (fun l' => okT md ops ds l' ti) && okO (okL md ops ds (l.setIfInBounds j true) lj) (fun l' => okT md ops ds l' tj)
  | l, .fork3 i li ti j lj tj m lm tm => (Region.ready md ops l == [i, j, m]) && okO (okL md ops ds (l.setIfInBounds i true) li) (fun l' => okT md ops ds l' ti) && okO (okL md ops ds (l.setIfInBounds j true) lj) (fun l' => okT md ops ds l' tj) && okO (okL md ops ds (l.setIfInBounds m true) lm) (fun l' => okT md ops ds l' tm)
  | l, .fork4 i li ti j lj tj m lm tm o lo tq => (Region.ready md ops l == [i, j, m, o]) && okO (okL md ops ds (l.setIfInBounds i true) li) (fun l' => okT md ops ds l' ti) && okO (okL md ops ds (l.setIfInBounds j true) lj) (fun l' => okT md ops ds l' tj) && okO (okL md ops ds (l.setIfInBounds m true) lm) (fun l' => okT md ops ds l' tm) && okO (okL md ops ds (l.setIfInBounds o true) lo) (fun l' => okT md ops ds l' tq)
def plT (P : Program) (T : Tab) (n : Nat) (all : Array Oper) (ds : List Nat) : PT → (Env → Heap → Prop) → Env → Heap → Prop
  | .fin, K => K
  | .fork i li ti j lj tj, K => fun env h => plansP P T n all ds ((i, false) :: li) (plT P T n all ds ti K) env h ∧ plansP P T n all ds ((j, false) :: lj) (plT P T n all ds tj K) env h
  | .fork3 i li ti j lj tj m lm tm, K => fun env h => plansP P T n all ds ((i, false) :: li) (plT P T n all ds ti K) env h ∧ plansP P T n all ds ((j, false) :: lj) (plT P T n all ds tj K) env h ∧ plansP P T n all ds ((m, false) :: lm) (plT P T n all ds tm K) env h
  | .fork4 i li ti j lj tj m lm tm o lo tq, K => fun env h => plansP P T n all ds ((i, false) :: li) (plT P T n all ds ti K) env h ∧ plansP P T n all ds ((j, false) :: lj) (plT P T n all ds tj K) env h ∧ plansP P T n all ds ((m, false) :: lm) (plT P T n all ds tm K) env h ∧ plansP P T n all ds ((o, false) :: lo) (plT P T n all ds tq K) env h
section
variable {P : Program} {n : Nat}
theorem wpAnyR_more {ops : Array Oper} {ds : List Nat} {Q : Exit → Env → Heap → Prop} {w0 : World} : ∀ (fuel : Nat) (listed : Array Bool) (a : Act) (w : World), wpAnyR P .any ops (KQ n w0 Q) ds fuel listed a w → wpAnyR P .any ops (KQ n w0 Q) ds (fuel + 1) listed a w
  | 0, listed, a, w, h => ⟨fun _ => h.2, fun i hi => by rw [h.1] at hi; cases hi⟩
  | fuel + 1, listed, a, w, h => ⟨h.1, fun i hi => wpOp_mono (fun a' w' h' => ⟨h'.1, wpAnyR_more fuel _ a' w' h'.2⟩) (h.2 i hi)⟩
theorem wpAnyR_le {ops : Array Oper} {ds : List Nat} {Q : Exit → Env → Heap → Prop} {w0 : World} {listed : Array Bool} {a : Act} {w : World} {f g : Nat} (hfg : f ≤ g) (h : wpAnyR P .any ops (KQ n w0 Q) ds f listed a w) : wpAnyR P .any ops (KQ n w0 Q) ds g listed a w := by
  obtain ⟨d, rfl⟩ : ∃ d, g = f + d := ⟨g - f, by omega⟩
  clear hfg
  induction d with
  | zero => exact h
  | succ d ih => exact wpAnyR_more _ _ _ _ ih
end
section
variable {P : Program} {T : Tab} {n : Nat} (hT : TOk P T)
include hT
theorem plan_soundC {ops : Array Oper} {ds : List Nat} {Q : Exit → Env → Heap → Prop} {w0 : World} (hsel : Region.noSelect ops = true) (hQ : ∀ c env h, Q (.panic c) env h → False) :
    ∀ (pl : List (Nat × Bool)) (K' : Env → Heap → Prop) (l' : Array Bool) (fuel : Nat) (listed : Array Bool) (env : Env) (a : Act) (w : World), okL .any ops ds listed pl = some l' → Agree n a env → Fr w0 w →
      plansP P T n ops ds pl K' env w.heap → (∀ env' a' w', Agree n a' env' → Fr w0 w' → K' env' w'.heap → wpAnyR P .any ops (KQ n w0 Q) ds fuel l' a' w') → wpAnyR P .any ops (KQ n w0 Q) ds (fuel + pl.length) listed a w
  | [], K', l', fuel, listed, env, a, w, hok, ha, hf, h, hc => by
    injection hok with hok
    subst hok
    exact hc env a w ha hf h
  | (i, first) :: r, K', l', fuel, listed, env, a, w, hok, ha, hf, h, hc => by
    rw [List.length_cons, ← Nat.add_assoc]
    simp only [plansP] at h
    obtain ⟨o, ho, h⟩ := Bd_iff h
    unfold Gd at h
    have hpan : ∀ (v : Value) (c : List PanicEntry) (a : Act) (w : World), KQ n w0 Q (.panic c) (a.put o.dst v) w → KQ n w0 Q (.panic c) a w := by
      rintro v c a w ⟨env, _, _, hq⟩
      exact (hQ c env _ hq).elim
    cases first with
    | true =>
      rw [okL, Option.ite_none_right_eq_some] at hok
      obtain ⟨hcnd, hok⟩ := hok
      simp only [Bool.and_eq_true] at hcnd
      obtain ⟨⟨⟨⟨h1, h2⟩, h3⟩, h4⟩, h5⟩ := hcnd
      rw [ho] at h5
      dsimp only at h5
      by_cases hfr : freeE o.op = true
      · have hyld : ∃ v, YieldsIf P ops (fun _ => True) o v a ∧ outv n o (fun env' h' => plansP P T n ops ds r K' env' h') env w.heap v := by
          split at h
          · rename_i hg
            obtain ⟨v, hv, hk⟩ := free_opE hT hfr h
            refine ⟨v, .inl ⟨by rw [wanted_guard ha]; exact hg, fun w' _ => by rw [ha.eval]; exact hv w'⟩, hk.1, hk.2.2⟩
          · rename_i hg
            exact ⟨undef, .inr ⟨by rw [wanted_guard ha]; simpa using hg, rfl⟩, h⟩
        obtain ⟨v, hy, hk⟩ := hyld
        refine wpAnyR_firstF ho (Region.noSelect_spec hsel) (hpan v) _ listed a w (Region.free_spec ho h1) (by simpa using h2) hy ?_
        exact plan_soundC hsel hQ r K' l' fuel (listed.setIfInBounds i true) _ _ w hok (ha.putO (dstB_spec hk.1) v) hf hk.2 hc
      replace h4 : lastB .any ops listed ds i = true := by
        rw [ho] at h4
        simpa [hfr] using h4
      have hyld : ∃ v, YieldsIf P ops (Pres w) o v a ∧ outv n o (fun env' h' => plansP P T n ops ds r K' env' h') env w.heap v := by
        split at h
        · rename_i hg
          obtain ⟨v, hv, hk⟩ := quiet_opP hT h5 h
          refine ⟨v, .inl ⟨by rw [wanted_guard ha]; exact hg, fun w' hp => by rw [ha.eval]; exact hv w' hp⟩, hk.1, hk.2.2⟩
        · rename_i hg
          exact ⟨undef, .inr ⟨by rw [wanted_guard ha]; simpa using hg, rfl⟩, h⟩
      obtain ⟨v, hy, hk⟩ := hyld
      refine wpAnyR_first ho (Region.noSelect_spec hsel) (hpan v) ops.size _ listed a w (Region.free_spec ho h1) (closedB_spec h3)
        (fun d hm hun => by have := List.all_eq_true.1 h4 d hm; rw [hun] at this; simpa using this) (by simpa using h2) hy ?_
      exact plan_soundC hsel hQ r K' l' fuel (listed.setIfInBounds i true) _ _ w hok (ha.putO (dstB_spec hk.1) v) hf hk.2 hc
    | false =>
      rw [okL, Option.ite_none_right_eq_some] at hok
      obtain ⟨hcnd, hok⟩ := hok
      have h1 : Region.ready .any ops listed = [i] := by simpa using hcnd
      refine ⟨(by rw [h1]; intro h; cases h), ?_⟩
      rw [h1]
      intro j hj
      simp only [List.mem_singleton] at hj
      subst hj
      unfold wpOp
      simp only [ho]
      rw [wanted_guard ha]
      split at h
      · rename_i hg
        simp only [hg, if_true]
        refine .inl (Oper.wp_mono ?_ (opP_sound hT ha h))
        rintro a' w' ⟨env', ha', hf', hp, hk⟩
        exact ⟨fun hd => hp (by simpa using hd), plan_soundC hsel hQ r K' l' fuel (listed.setIfInBounds j true) env' a' w' hok ha' (hf.trans hf') hk hc⟩
      · rename_i hg
        simp only [hg]
        exact ⟨fun _ => HPres.refl _, plan_soundC hsel hQ r K' l' fuel (listed.setIfInBounds j true) _ _ w hok (ha.putO (dstB_spec h.1) undef) hf h.2 hc⟩
/-- One operation that is ready, then a plan. -/
theorem plan_one {ops : Array Oper} {ds : List Nat} {Q : Exit → Env → Heap → Prop} {w0 : World} {j : Nat} {r : List (Nat × Bool)} {K' : Env → Heap → Prop} {fuel : Nat} {listed : Array Bool} {env : Env} {a : Act} {w : World} (ha : Agree n a env) (hf : Fr w0 w)
    (h : plansP P T n ops ds ((j, false) :: r) K' env w.heap) (hc : ∀ env' a' w', Agree n a' env' → Fr w0 w' → plansP P T n ops ds r K' env' w'.heap → wpAnyR P .any ops (KQ n w0 Q) ds fuel (listed.setIfInBounds j true) a' w') :
    wpOp P ops (KQ n w0 Q) j (fun a' w' => (j ∉ ds → Pres w w') ∧ wpAnyR P .any ops (KQ n w0 Q) ds fuel (listed.setIfInBounds j true) a' w') a w := by
  simp only [plansP] at h
  obtain ⟨o, ho, h⟩ := Bd_iff h
  unfold Gd at h
  unfold wpOp
  simp only [ho]
  rw [wanted_guard ha]
  split at h
  · rename_i hg
    simp only [hg, if_true]
    refine .inl (Oper.wp_mono ?_ (opP_sound hT ha h))
    rintro a' w' ⟨env', ha', hf', hp, hk⟩
    exact ⟨fun hd => hp (by simpa using hd), hc env' a' w' ha' (hf.trans hf') hk⟩
  · rename_i hg
    simp only [hg]
    exact ⟨fun _ => HPres.refl _, hc _ _ w (ha.putO (dstB_spec h.1) undef) hf h.2⟩
theorem tree_sound {ops : Array Oper} {ds : List Nat} {Q : Exit → Env → Heap → Prop} {w0 : World} (hsel : Region.noSelect ops = true) (hQ : ∀ c env h, Q (.panic c) env h → False) :
    ∀ (t : PT) (fuel : Nat) (listed : Array Bool) (env : Env) (a : Act) (w : World), t.size ≤ fuel → okT .any ops ds listed t = true → Agree n a env → Fr w0 w →
      plT P T n ops ds t (Q .normal) env w.heap → wpAnyR P .any ops (KQ n w0 Q) ds fuel listed a w
  | .fin, fuel, listed, env, a, w, hl, hok, ha, hf, h => by
    have hr : Region.ready .any ops listed = [] := by simpa [okT] using hok
    cases fuel with
    | zero => exact ⟨hr, env, ha, hf, h⟩
    | succ f => exact ⟨fun _ => ⟨env, ha, hf, h⟩, by rw [hr]; intro i hi; cases hi⟩
  | .fork i li ti j lj tj, fuel, listed, env, a, w, hl, hok, ha, hf, h => by
    simp only [PT.size] at hl
    obtain ⟨fuel, rfl⟩ : ∃ f, fuel = f + 1 := ⟨fuel - 1, by omega⟩
    simp only [okT, Bool.and_eq_true, beq_iff_eq] at hok
    obtain ⟨⟨h1, h2⟩, h3⟩ := hok
    obtain ⟨g1, g2⟩ : plansP P T n ops ds ((i, false) :: li) (plT P T n ops ds ti (Q .normal)) env w.heap ∧ plansP P T n ops ds ((j, false) :: lj) (plT P T n ops ds tj (Q .normal)) env w.heap := h
    refine ⟨(by rw [h1]; intro h; cases h), ?_⟩
    rw [h1]
    intro q hq
    have hq' : q = i ∨ q = j := by simpa using hq
    rcases hq' with rfl | rfl
    · cases e : okL .any ops ds (listed.setIfInBounds q true) li with
      | none => rw [e] at h2; cases h2
      | some l' =>
        rw [e] at h2
        refine plan_one hT ha hf g1 (fun env' a' w' ha' hf' hk => ?_)
        refine wpAnyR_le (f := (fuel - li.length) + li.length) (by omega) ?_
        exact plan_soundC hT hsel hQ li _ l' (fuel - li.length) _ env' a' w' e ha' hf' hk (fun env2 a2 w2 ha2 hf2 hk2 => tree_sound hsel hQ ti (fuel - li.length) l' env2 a2 w2 (by omega) h2 ha2 hf2 hk2)
    · cases e : okL .any ops ds (listed.setIfInBounds q true) lj with
      | none => rw [e] at h3; cases h3
      | some l' =>
        rw [e] at h3
        refine plan_one hT ha hf g2 (fun env' a' w' ha' hf' hk => ?_)
        refine wpAnyR_le (f := (fuel - lj.length) + lj.length) (by omega) ?_
        exact plan_soundC hT hsel hQ lj _ l' (fuel - lj.length) _ env' a' w' e ha' hf' hk (fun env2 a2 w2 ha2 hf2 hk2 => tree_sound hsel hQ tj (fuel - lj.length) l' env2 a2 w2 (by omega) h3 ha2 hf2 hk2)
  | .fork3 i li ti j lj tj m lm tm, fuel, listed, env, a, w, hl, hok, ha, hf, h => by
    simp only [PT.size] at hl
    obtain ⟨fuel, rfl⟩ : ∃ f, fuel = f + 1 := ⟨fuel - 1, by omega⟩
    simp only [okT, Bool.and_eq_true, beq_iff_eq] at hok
    obtain ⟨⟨⟨h1, h2⟩, h3⟩, h4⟩ := hok
    obtain ⟨g1, g2, g3⟩ : plansP P T n ops ds ((i, false) :: li) (plT P T n ops ds ti (Q .normal)) env w.heap ∧ plansP P T n ops ds ((j, false) :: lj) (plT P T n ops ds tj (Q .normal)) env w.heap ∧ plansP P T n ops ds ((m, false) :: lm) (plT P T n ops ds tm (Q .normal)) env w.heap := h
    refine ⟨(by rw [h1]; intro h; cases h), ?_⟩
    rw [h1]
    intro q hq
    have hq' : q = i ∨ q = j ∨ q = m := by simpa using hq
    rcases hq' with rfl | rfl | rfl
    · cases e : okL .any ops ds (listed.setIfInBounds q true) li with
      | none => rw [e] at h2; cases h2
      | some l' =>
        rw [e] at h2
        refine plan_one hT ha hf g1 (fun env' a' w' ha' hf' hk => ?_)
        refine wpAnyR_le (f := (fuel - li.length) + li.length) (by omega) ?_
        exact plan_soundC hT hsel hQ li _ l' (fuel - li.length) _ env' a' w' e ha' hf' hk (fun env2 a2 w2 ha2 hf2 hk2 => tree_sound hsel hQ ti (fuel - li.length) l' env2 a2 w2 (by omega) h2 ha2 hf2 hk2)
    · cases e : okL .any ops ds (listed.setIfInBounds q true) lj with
      | none => rw [e] at h3; cases h3
      | some l' =>
        rw [e] at h3
        refine plan_one hT ha hf g2 (fun env' a' w' ha' hf' hk => ?_)
        refine wpAnyR_le (f := (fuel - lj.length) + lj.length) (by omega) ?_
        exact plan_soundC hT hsel hQ lj _ l' (fuel - lj.length) _ env' a' w' e ha' hf' hk (fun env2 a2 w2 ha2 hf2 hk2 => tree_sound hsel hQ tj (fuel - lj.length) l' env2 a2 w2 (by omega) h3 ha2 hf2 hk2)
    · cases e : okL .any ops ds (listed.setIfInBounds q true) lm with
      | none => rw [e] at h4; cases h4
      | some l' =>
        rw [e] at h4
        refine plan_one hT ha hf g3 (fun env' a' w' ha' hf' hk => ?_)
        refine wpAnyR_le (f := (fuel - lm.length) + lm.length) (by omega) ?_
        exact plan_soundC hT hsel hQ lm _ l' (fuel - lm.length) _ env' a' w' e ha' hf' hk (fun env2 a2 w2 ha2 hf2 hk2 => tree_sound hsel hQ tm (fuel - lm.length) l' env2 a2 w2 (by omega) h4 ha2 hf2 hk2)
  | .fork4 i li ti j lj tj m lm tm o lo tq, fuel, listed, env, a, w, hl, hok, ha, hf, h => by
    simp only [PT.size] at hl
    obtain ⟨fuel, rfl⟩ : ∃ f, fuel = f + 1 := ⟨fuel - 1, by omega⟩
    simp only [okT, Bool.and_eq_true, beq_iff_eq] at hok
    obtain ⟨⟨⟨⟨h1, h2⟩, h3⟩, h4⟩, h5⟩ := hok
    obtain ⟨g1, g2, g3, g4⟩ : plansP P T n ops ds ((i, false) :: li) (plT P T n ops ds ti (Q .normal)) env w.heap ∧ plansP P T n ops ds ((j, false) :: lj) (plT P T n ops ds tj (Q .normal)) env w.heap ∧ plansP P T n ops ds ((m, false) :: lm) (plT P T n ops ds tm (Q .normal)) env w.heap ∧ plansP P T n ops ds ((o, false) :: lo) (plT P T n ops ds tq (Q .normal)) env w.heap := h
    refine ⟨(by rw [h1]; intro h; cases h), ?_⟩
    rw [h1]
    intro q hq
    have hq' : q = i ∨ q = j ∨ q = m ∨ q = o := by simpa using hq
    rcases hq' with rfl | rfl | rfl | rfl
    · cases e : okL .any ops ds (listed.setIfInBounds q true) li with
      | none => rw [e] at h2; cases h2
      | some l' =>
        rw [e] at h2
        refine plan_one hT ha hf g1 (fun env' a' w' ha' hf' hk => ?_)
        refine wpAnyR_le (f := (fuel - li.length) + li.length) (by omega) ?_
        exact plan_soundC hT hsel hQ li _ l' (fuel - li.length) _ env' a' w' e ha' hf' hk (fun env2 a2 w2 ha2 hf2 hk2 => tree_sound hsel hQ ti (fuel - li.length) l' env2 a2 w2 (by omega) h2 ha2 hf2 hk2)
    · cases e : okL .any ops ds (listed.setIfInBounds q true) lj with
      | none => rw [e] at h3; cases h3
      | some l' =>
        rw [e] at h3
        refine plan_one hT ha hf g2 (fun env' a' w' ha' hf' hk => ?_)
        refine wpAnyR_le (f := (fuel - lj.length) + lj.length) (by omega) ?_
        exact plan_soundC hT hsel hQ lj _ l' (fuel - lj.length) _ env' a' w' e ha' hf' hk (fun env2 a2 w2 ha2 hf2 hk2 => tree_sound hsel hQ tj (fuel - lj.length) l' env2 a2 w2 (by omega) h3 ha2 hf2 hk2)
    · cases e : okL .any ops ds (listed.setIfInBounds q true) lm with
      | none => rw [e] at h4; cases h4
      | some l' =>
        rw [e] at h4
        refine plan_one hT ha hf g3 (fun env' a' w' ha' hf' hk => ?_)
        refine wpAnyR_le (f := (fuel - lm.length) + lm.length) (by omega) ?_
        exact plan_soundC hT hsel hQ lm _ l' (fuel - lm.length) _ env' a' w' e ha' hf' hk (fun env2 a2 w2 ha2 hf2 hk2 => tree_sound hsel hQ tm (fuel - lm.length) l' env2 a2 w2 (by omega) h4 ha2 hf2 hk2)
    · cases e : okL .any ops ds (listed.setIfInBounds q true) lo with
      | none => rw [e] at h5; cases h5
      | some l' =>
        rw [e] at h5
        refine plan_one hT ha hf g4 (fun env' a' w' ha' hf' hk => ?_)
        refine wpAnyR_le (f := (fuel - lo.length) + lo.length) (by omega) ?_
        exact plan_soundC hT hsel hQ lo _ l' (fuel - lo.length) _ env' a' w' e ha' hf' hk (fun env2 a2 w2 ha2 hf2 hk2 => tree_sound hsel hQ tq (fuel - lo.length) l' env2 a2 w2 (by omega) h5 ha2 hf2 hk2)
theorem den_drawT {id : Nat} {ops : Array Oper} {Qr : Env → Heap → Prop} {k : List It} {env : Env} {h : Heap} (hm : P.follows .mixedOrders = true) (ds : List Nat) (l0 : List (Nat × Bool)) (t : PT)
    (hok : (Region.noSelect ops && decide (l0.length + t.size ≤ ops.size) && okO (okL .any ops ds (Array.replicate ops.size false) l0) (fun l' => okT .any ops ds l' t)) = true)
    (hh : ∀ K : Env → Heap → Prop, (∀ env h, den P n Qr k env h → K env h) → plansP P T n ops ds l0 (plT P T n ops ds t K) env h) : den P n Qr (.code (.region id ops true) :: k) env h := by
  refine den_code ?_
  intro a w ha e
  subst e
  simp only [Bool.and_eq_true, decide_eq_true_eq] at hok
  obtain ⟨⟨h1, h2⟩, h3⟩ := hok
  cases e : okL .any ops ds (Array.replicate ops.size false) l0 with
  | none => rw [e] at h3; cases h3
  | some l' =>
    rw [e] at h3
    refine wp_region_any hm (wpAny_of_R (ds := ds) _ _ _ _ ?_)
    have hs : wpAnyR P .any ops (KQ n w (denQ P n Qr k)) ds (t.size + l0.length) (Array.replicate ops.size false) a { w with drawn := w.drawn + 1 } :=
      plan_soundC hT h1 (Q := denQ P n Qr k) (w0 := w) (fun c env h hq => hq) l0 _ l' t.size _ env a { w with drawn := w.drawn + 1 } e ha ⟨rfl, rfl, rfl⟩ (hh _ (fun _ _ h => h)) (fun env2 a2 w2 ha2 hf2 hk2 => tree_sound hT h1 (fun c env h hq => hq) t t.size l' env2 a2 w2 (Nat.le_refl _) h3 ha2 hf2 hk2)
    exact wpAnyR_le (by omega) hs
/-- The orders meet again: what all of them leave is told once. -/
theorem den_drawTJ {id : Nat} {ops : Array Oper} {Qr : Env → Heap → Prop} {k : List It} {h : Heap} {σ : Type} {e0 : Env} {lc : List (Nat × Value)} (st : σ → List (Nat × Value)) (I : σ → Heap → Prop) (hm : P.follows .mixedOrders = true) (ds : List Nat) (l0 : List (Nat × Bool)) (t : PT)
    (hok : (Region.noSelect ops && decide (l0.length + t.size ≤ ops.size) && okO (okL .any ops ds (Array.replicate ops.size false) l0) (fun l' => okT .any ops ds l' t)) = true)
    (hh : ∀ K : Env → Heap → Prop, (∀ s env h, HasL env (st s ++ lc) → I s h → K env h) → plansP P T n ops ds l0 (plT P T n ops ds t K) (puts e0 lc) h)
    (hr : ∀ s h e, I s h → den P n Qr k (puts e (st s ++ lc)) h) : den P n Qr (.code (.region id ops true) :: k) (puts e0 lc) h :=
  den_drawT hT hm ds l0 t hok (fun K hK => hh K (fun s env h hl hi => hK env h (by rw [← HasL.puts hl]; exact hr s h env hi)))
end
end Go.Proofs.Ytkdnnfkdgmblgaa
