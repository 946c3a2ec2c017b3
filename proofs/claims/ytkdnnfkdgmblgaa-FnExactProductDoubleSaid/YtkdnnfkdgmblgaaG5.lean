/-
  The ground, sixth part: a function's call, from its body.
  Conditions: the table of types T fits the program (TOk).
-/
import Derived.Test.YtkdnnfkdgmblgaaG4
set_option linter.unusedVariables false
set_option linter.unusedSimpArgs false
namespace Go.Proofs.Ytkdnnfkdgmblgaa
open Go

def envOf (args : List Value) : Env := fun t => args.getD t undef
theorem envOf_zero (x : Value) (l : List Value) : envOf (x :: l) 0 = x := rfl
theorem envOf_succ (x : Value) (l : List Value) (t : Nat) : envOf (x :: l) (t + 1) = envOf l t := rfl

theorem puts_idxs : ∀ (l : List Value) (n t : Nat), puts (fun _ => undef) (idxs n l) t = if n ≤ t then l.getD (t - n) undef else undef
  | [], n, t => by simp [idxs, puts]
  | v :: l, n, t => by
    simp only [idxs, puts_at]
    by_cases h : t = n
    · subst h; simp
    · rw [if_neg h, puts_idxs l (n + 1) t]
      by_cases h2 : n ≤ t
      · rw [if_pos (by omega), if_pos h2]
        obtain ⟨m, rfl⟩ : ∃ m, t = n + 1 + m := ⟨t - (n + 1), by omega⟩
        rw [show n + 1 + m - (n + 1) = m by omega, show n + 1 + m - n = m + 1 by omega]
        rfl
      · rw [if_neg (by omega), if_neg h2]
theorem envOf_puts (l : List Value) : envOf l = puts (fun _ => undef) (idxs 0 l) := by
  funext t
  rw [puts_idxs]
  simp [envOf]

def resL (T : Tab) (env : Env) (h : Heap) : List ResultVar → Option (List Value)
  | [] => some []
  | .tmp t :: r => (resL T env h r).map (env t :: ·)
  | .cell a t :: r => (asAd (env a)).bind fun ad => (loadV T h t ad).bind fun v => (resL T env h r).map (v :: ·)
def resV (T : Tab) (env : Env) (h : Heap) (rs : List ResultVar) : Option Value :=
  (resL T env h rs).map fun vs => match vs with
    | [v] => v
    | vs => .tuple vs.toArray
def resP (T : Tab) (rs : List ResultVar) (R : Value → Heap → Prop) (env : Env) (h : Heap) : Prop :=
  match resV T env h rs with
  | some v => R v h
  | none => False

def resF (tmps : Array Value) : ResultVar → Sem Value
  | .tmp t => pure (tmps.getD t undef)
  | .cell x t => do loadVar t (← asAddr (tmps.getD x undef))

section
variable {P : Program} {T : Tab} (hT : TOk P T)
include hT
omit hT in
theorem results_eq (fn : Func) (tmps : Array Value) : results fn tmps = (do
    let vs ← fn.results.mapM (resF tmps)
    pure (if h : vs.size = 1 then vs[0] else .tuple vs)) := rfl
theorem run_resL {n : Nat} {a : Act} {env : Env} (ha : Agree n a env) (w : World) : ∀ (rs : List ResultVar) (vs : List Value), resL T env w.heap rs = some vs → (rs.mapM (resF a.tmps)).run P w = .ok vs w
  | [], vs, h => by simp [resL] at h; subst h; simp
  | .tmp t :: r, vs, h => by
    simp only [resL, Option.map_eq_some_iff] at h
    obtain ⟨l, hl, rfl⟩ := h
    have ih := run_resL ha w r l hl
    simp only [List.mapM_cons, resF, Sem.run_bind, Sem.run_pure, Result.andThen_ok, ih, ha.at_]
  | .cell x t :: r, vs, h => by
    simp only [resL, Option.bind_eq_some_iff, Option.map_eq_some_iff] at h
    obtain ⟨ad, had, v, hv, l, hl, rfl⟩ := h
    have ih := run_resL ha w r l hl
    simp only [List.mapM_cons, resF, Sem.run_bind, ha.at_, asAd_some had, asAddr, Sem.run_pure, Result.andThen_ok, run_loadT hT w hv, ih]

theorem run_results {n : Nat} {a : Act} {env : Env} (ha : Agree n a env) (w : World) (fn : Func) {v : Value} (h : resV T env w.heap fn.results.toList = some v) : (results fn a.tmps).run P w = .ok v w := by
  obtain ⟨vs, hvs, rfl⟩ := Option.map_eq_some_iff.1 h
  have := run_resL hT ha w _ _ hvs
  rw [results_eq, Array.mapM_eq_mapM_toList]
  simp only [Sem.run_bind, Sem.run_map, this, Result.andThen_ok, Sem.run_pure]
  match vs with
  | [] => simp
  | [v] => simp
  | v :: u :: r => simp

theorem callA_intro {g : FuncId} {fn : Func} {c : Code} {args : List Value} {h : Heap} {R : Value → Heap → Prop} (hf : P.funcs[g]? = some fn) (hn : (fn.name == "runtime.NumGoroutine") = false) (hb : fn.body = some c)
    (n : Nat) (hnt : fn.ntmps = n) (hs : args.length ≤ n) (rs : List ResultVar) (hrs : fn.results.toList = rs) (hh : den P n (resP T rs R) [.code c] (puts (fun _ => undef) (idxs 0 args)) h) : CallA P g args.toArray h R := by
  rw [← envOf_puts] at hh
  refine ⟨fn, hf, hn, by rw [hb]; rfl, fun w hw => ?_⟩
  refine calls_of_wp hf hb ?_
  have ha : Agree n { tmps := args.toArray ++ Array.replicate (fn.ntmps - args.toArray.size) undef, defers := [] } (envOf args) := by
    refine ⟨rfl, by simp [hnt]; omega, fun t => ?_⟩
    simp only [Array.getD_eq_getD_getElem?, envOf, List.getD_eq_getElem?_getD]
    by_cases ht : t < args.length
    · rw [Array.getElem?_append_left (by simpa using ht)]
      simp
    · rw [Array.getElem?_append_right (by simpa using Nat.le_of_not_lt ht), List.getElem?_eq_none (by omega)]
      rw [Array.getElem?_replicate]
      split <;> simp
  rw [den] at hh
  refine wp_mono (hh _ w ha hw) ?_
  rintro e a' w' ⟨env', ha', hf', hq⟩
  have fin : ∀ env', Agree n a' env' → Fr w w' → resP T rs R env' w'.heap → a'.defers = [] ∧ ∃ v, (results fn a'.tmps).run P w' = .ok v w' ∧ ∃ v', Ending.returned v = .returned v' ∧ Fr w w' ∧ R v' w'.heap := by
    intro env' ha' hf' hq
    unfold resP at hq
    split at hq
    · rename_i v hv
      exact ⟨ha'.defers, v, run_results hT ha' w' fn (by rw [hrs]; exact hv), v, rfl, hf', hq⟩
    · exact hq.elim
  cases e with
  | normal => exact fin env' ha' hf' (by simpa [den] using hq)
  | ret => exact fin env' ha' hf' hq
  | exit id => simp [denX] at hq
  | goto l => exact hq.elim
  | panic c => exact hq.elim
  | outgrown => exact hq.elim
end
end Go.Proofs.Ytkdnnfkdgmblgaa
