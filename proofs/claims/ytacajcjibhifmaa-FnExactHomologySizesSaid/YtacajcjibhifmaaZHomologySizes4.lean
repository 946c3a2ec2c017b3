/-
  What the statement FnExactHomologySizes uses of the walks, part 4.
  Conditions: each theorem's own.
-/
import Derived.Test.YtacajcjibhifmaaG16
import Derived.Test.YtacajcjibhifmaaG17
import Derived.Test.YtacajcjibhifmaaG14
import Derived.Test.YtacajcjibhifmaaG13
import Derived.Test.YtacajcjibhifmaaG15
import Derived.Test.YtacajcjibhifmaaG18
import Derived.Test.YtacajcjibhifmaaG19
import Derived.Test.YtacajcjibhifmaaZHomologySizes1
import Derived.Test.YtacajcjibhifmaaZHomologySizes2
import Derived.Test.YtacajcjibhifmaaZHomologySizes3
set_option linter.unusedVariables false
set_option linter.unusedSimpArgs false
namespace Go.Proofs.Ytacajcjibhifmaa
open Go
/-- A row that is one's own, or one that lies elsewhere and is told by its value alone. -/
def EB (h : Heap) (u : Value) (x : List Int × Option Value) (fp : List Nat) : Prop := (x.2 = none ∧ O1 h u x.1 fp) ∨ (x.2 = some u ∧ (u.oneCell' = true ∧ u.cells = #[u]) ∧ fp = [])
instance : Own EB := ⟨fun hl h => h.elim (fun a => .inl ⟨a.1, Own.loc hl a.2⟩) .inr, (fun h b hb => by
 rcases h with h | h
 ·exact Own.lt h.2 b hb
 ·rw [h.2.2] at hb; cases hb), (fun h => by
 rcases h with h | h
 ·exact Own.one h.2
 ·exact h.2.1)⟩
theorem EB.own {h : Heap} {u : Value} {x : List Int} {fp : List Nat} (ho : O1 h u x fp) : EB h u (x, none) fp := .inl ⟨rfl, ho⟩
theorem EB.bor {h : Heap} {u : Value} {x : List Int} (ho : u.oneCell' = true ∧ u.cells = #[u]) : EB h u (x, some u) [] := .inr ⟨rfl, ho, rfl⟩
abbrev O2B : Heap → Value → List (List Int × Option Value) → List Nat → Prop := OS 55 EB
theorem OB.nil {h : Heap} {v : Value} {fp : List Nat} (ho : O2 h v [] fp) : O2B h v [] fp := by
 rcases ho with ⟨h1, _, h3⟩ | ⟨b, c, cur, fps, rfl, r⟩
 ·exact .inl ⟨h1, rfl, h3⟩
 ·exact .inr ⟨b, c, cur, fps, rfl, ⟨r.val, r.box, r.size, r.max, r.le, r.len, fun j hj => by simp at hj⟩⟩
theorem OB.join {h : Heap} {v vo : Value} {xs : List (List Int × Option Value)} {own : List Int} {fp fo : List Nat} {pos : Nat} (ho : O2B h v xs fp) (hn : fp.Nodup) (oo : O1 h vo own fo) (hno : fo.Nodup) (ap : Apart fp fo) (hp : pos < xs.length) (hx : xs.getD pos default = (own, some vo)) (hz : ∀ j, j < xs.length → j ≠ pos → (xs.getD j default).2 = none) : ∃ fp', O2 h v (xs.map Prod.fst) fp' ∧ fp'.Nodup ∧ ∀ b ∈ fp', b ∈ fp ∨ b ∈ fo := by
 rcases ho with ⟨_, rfl, _⟩ | ⟨b, c, cur, fps, rfl, r⟩
 ·simp at hp
 ·obtain ⟨hnb, hnf⟩ := List.nodup_cons.1 hn
  have gx : ∀ j (hj : j < xs.length), xs.getD j default = xs[j] := fun j hj => by rw [List.getD_eq_getElem?_getD, List.getElem?_eq_getElem hj]; rfl
  refine ⟨b :: (fps.set pos fo).flatten, .inr ⟨b, c, cur, fps.set pos fo, rfl, ⟨by rw [List.length_map]; exact r.val, r.box, r.size, r.max, by rw [List.length_map]; exact r.le, by rw [List.length_set, List.length_map]; exact r.len, fun j hj => ?_⟩⟩, List.nodup_cons.2 ⟨fun hm => ?_, nodup_flatten_set hnf hno (fun q hq => ap q (List.mem_cons_of_mem _ hq))⟩, fun q hq => ?_⟩
  ·have hj' : j < xs.length := by simpa using hj
   obtain ⟨u, f, k1, k2, k3⟩ := r.el j hj'
   rw [List.getElem_map]
   by_cases e : pos = j
   ·subst e
    rw [gx _ hj'] at hx
    rw [hx] at k3 ⊢
    rcases k3 with k3 | k3
    ·cases k3.1
    ·have hv : vo = u := by injection k3.1
     exact ⟨u, fo, k1, by rw [List.getElem?_set_self (by rw [r.len]; exact hj')], hv ▸ oo⟩
   ·have h2 := hz j hj' (Ne.symm e)
    rw [gx _ hj'] at h2
    rcases k3 with k3 | k3
    ·exact ⟨u, f, k1, by rw [List.getElem?_set_ne e]; exact k2, k3.2⟩
    ·rw [h2] at k3; cases k3.1
  ·rcases mem_flatten_set hm with h1 | h1
   ·exact hnb h1
   ·exact ap b (by simp) h1
  ·rcases List.mem_cons.1 hq with rfl | hq
   ·exact .inl (by simp)
   ·rcases mem_flatten_set hq with h1 | h1
    ·exact .inl (List.mem_cons_of_mem _ h1)
    ·exact .inr h1
abbrev tagR (p : Int) (own : List Int) (at_ : Nat) (r : List Int) : List Int × Option Value := (redR p own at_ r, none)
def nextT (p : Int) (L : List (List Int)) (own : List Int) (at_ pos : Nat) (vo : Value) (k : Nat) : List (List Int × Option Value) := if k ≤ pos then (L.take k).map (tagR p own at_) else (L.take pos).map (tagR p own at_) ++ (own, some vo) :: ((L.take k).drop pos).map (tagR p own at_)
def putT (p : Int) (L : List (List Int)) (own : List Int) (at_ pos : Nat) (vo : Value) : List (List Int × Option Value) := (L.take pos).map (tagR p own at_) ++ (own, some vo) :: (L.drop pos).map (tagR p own at_)
section
variable {p : Int} {L : List (List Int)} {own : List Int} {at_ pos : Nat} {vo : Value}
theorem nextT_zero : nextT p L own at_ pos vo 0 = [] := by simp [nextT]
theorem nextT_len {k : Nat} (hk : k ≤ L.length) : (nextT p L own at_ pos vo k).length ≤ L.length + 1 := by
 unfold nextT
 split
 ·simp; omega
 ·simp; omega
theorem nextT_step {k : Nat} (hk : k < L.length) (hne : k ≠ pos) : nextT p L own at_ pos vo k ++ [(redR p own at_ (L.getD k default), none)] = nextT p L own at_ pos vo (k + 1) := by
 unfold nextT
 by_cases h : k < pos
 ·rw [if_pos (by omega), if_pos (by omega)]; exact map_takeA (f := tagR p own at_) hk
 ·rw [if_neg (by omega), if_neg (by omega), List.append_assoc, List.cons_append, take_snoc hk, List.drop_append, List.map_append]
  have : (L.take k).length = k := by simp; omega
  rw [this, show pos - k = 0 by omega]; rfl
theorem nextT_at {k : Nat} (hk : k < L.length) (e : k = pos) : nextT p L own at_ pos vo k ++ [(own, some vo)] ++ [(redR p own at_ (L.getD k default), none)] = nextT p L own at_ pos vo (k + 1) := by
 subst e
 unfold nextT
 rw [if_pos (Nat.le_refl _), if_neg (by omega), List.append_assoc, take_snoc hk, List.drop_append]
 have : (L.take k).length = k := by simp; omega
 rw [this, Nat.sub_self, List.drop_of_length_le (by omega)]; rfl
theorem nextT_end1 {k : Nat} (hk : ¬ k < L.length) (h : k ≤ pos) : nextT p L own at_ pos vo k ++ [(own, some vo)] = putT p L own at_ pos vo := by
 unfold nextT putT
 rw [if_pos h, List.take_of_length_le (by omega), List.take_of_length_le (by omega), List.drop_of_length_le (by omega)]; rfl
theorem nextT_end2 {k : Nat} (hk : ¬ k < L.length) (h : pos < k) : nextT p L own at_ pos vo k = putT p L own at_ pos vo := by
 unfold nextT putT
 rw [if_neg (by omega), List.take_of_length_le (i := k) (by omega)]
theorem putT_fst : (putT p L own at_ pos vo).map Prod.fst = putP p L own at_ pos := by
 unfold putT putP
 simp [List.map_append, Function.comp_def]
theorem putT_len (h : pos ≤ L.length) : (putT p L own at_ pos vo).length = L.length + 1 := by
 simp [putT]; omega
theorem putT_at (h : pos ≤ L.length) : (putT p L own at_ pos vo).getD pos default = (own, some vo) := by
 have hl : ((L.take pos).map (tagR p own at_)).length = pos := by simp; omega
 rw [putT, List.getD_eq_getElem?_getD, List.getElem?_append_right (by omega), hl, Nat.sub_self]; rfl
theorem putT_other (h : pos ≤ L.length) {j : Nat} (hj : j < (putT p L own at_ pos vo).length) (hne : j ≠ pos) : ((putT p L own at_ pos vo).getD j default).2 = none := by
 have hl : ((L.take pos).map (tagR p own at_)).length = pos := by simp; omega
 rw [putT_len h] at hj
 rw [putT, List.getD_eq_getElem?_getD]
 by_cases h1 : j < pos
 ·rw [List.getElem?_append_left (by omega), List.getElem?_map, List.getElem?_take, if_pos h1, List.getElem?_eq_getElem (by omega)]; rfl
 ·rw [List.getElem?_append_right (by omega), hl]
  obtain ⟨q, rfl⟩ : ∃ q, j = pos + q + 1 := ⟨j - pos - 1, by omega⟩
  rw [show pos + q + 1 - pos = q + 1 by omega, List.getElem?_cons_succ, List.getElem?_map, List.getElem?_drop, List.getElem?_eq_getElem (by omega)]; rfl
end

set_option maxRecDepth 100000 in
theorem sEch_ok (vR : Value) (p : Int) (R : List (List Int)) (h : Heap) (rR : R2 h vR R) {w : Nat} (hP : isP p = true) (hT : ∀ r ∈ R, r.length = w ∧ Bnd p r) (hw : w ≤ 1000) (hl : R.length ≤ 1000) : CallA Try.prog 113 #[.int .i64 p, vR] h fun v' h' => ∃ w0 f0, v' = w0 ∧ O2 h' w0 (ech p R) f0 ∧ Fresh h.size f0 ∧ Ext h h' := by
 have hleR := RdS.le rR
 have hp := isP_two hP
 refine callA_intro TTok (args := [_, _]) Try.func113 (by kernel_rfl) rfl 102 rfl (by simp) [.tmp 4] rfl ?_
 simp only [idxs, Nat.reduceAdd]
 refine den_seq ?_
 refine den_region TTok ?_
 intro K hK
 simp -implicitDefEqProofs (disch := first | decide | assumption | omega) only [go_sem, RdS.al rR (HPres.refl _) sl59, wrap_id]
 refine hK _ _ ?_
 clear hK K
 refine den_seq ?_
 refine den_region TTok ?_
 intro K hK
 simp -implicitDefEqProofs (disch := first | decide | assumption | omega) only [go_sem, RdS.al rR (HPres.refl _) sl59, wrap_id]
 refine op_bs0 sz59 O1 ?_
 intro v1_0 h1_0 ho1_0 e1_0
 have := Ext.size e1_0
 have eB := e1_0
 have hfho1_0 : Fresh h.size [h.size] := Fresh.one _
 have hlho1_0 := OS.lt ho1_0
 try simp -implicitDefEqProofs (disch := first | decide | assumption | omega) only [go_sem, RdS.al rR (Ext.pres eB) sl59, RdS.an (OS.rd ho1_0) sl59, wrap_id]
 refine hK _ _ ?_
 clear hK K
 refine den_seq ?_
 refine den_seq ?_
 refine den_region TTok ?_
 intro K hK
 simp -implicitDefEqProofs (disch := first | decide | assumption | omega) only [go_sem, RdS.al rR (Ext.pres eB) sl59, RdS.an (OS.rd ho1_0) sl59, wrap_id]
 refine hK _ _ ?_
 clear hK K
 refine den_block ?_
 refine den_sel [5, 6, 0, 1] ?_
 intro env_1
 simp only [go_sem]
 refine den_loopS (σ := Nat × List (List Int) × Value × List Nat) (fun st_ => [(5, st_.2.2.1), (6, .int .i64 (st_.1 : Int))]) (fun st_ H => (Red p w st_.2.1 (R.take st_.1)) ∧ (st_.1 ≤ R.length) ∧ (O2 H st_.2.2.1 (st_.2.1) st_.2.2.2) ∧ (Fresh (h.size) st_.2.2.2) ∧ (Sub [h.size] h1_0.size st_.2.2.2) ∧ (Chg [h.size] h1_0 H)) (fun st_ => R.length - st_.1) (0, [], v1_0, [h.size]) ?_ ?_
 ·exact ⟨(by rw [List.take_zero]; exact Red.nil), by simp, by exact ho1_0, hfho1_0, Sub.refl, Chg.refl _ _⟩
 ·rintro ⟨i, L, vhL, fphL⟩ h4 ee3 ⟨hred, hi, hL, hfhL, sbhL, cL2⟩
  dsimp only at hred hi hL hfhL sbhL cL2
  have := cL2.size
  replace eB := Ext.then eB cL2 (ge_of hfho1_0 (by omega))
  have hlhL := OS.lt hL
  simp only [List.cons_append, List.nil_append]
  obtain ⟨⟨l, hrl⟩, hrE⟩ := id hred
  have hLw := hrl.le_w
  refine den_seq ?_
  refine den_seq ?_
  refine den_region TTok ?_
  intro K hK
  simp -implicitDefEqProofs (disch := first | decide | assumption | omega) only [go_sem, RdS.al rR (Ext.pres eB) sl59, RdS.an (OS.rd hL) sl59, wrap_id]
  refine hK _ _ ?_
  clear hK K
  refine den_cond rfl (fun c0 => ?_) (fun c0 => ?_)
  ·try simp only [ddA] at c0
   refine den_skip ?_
   refine den_seq ?_
   refine den_block ?_
   refine den_seq ?_
   have hRi := hT _ (getD_mem (show i < R.length by omega))
   have hrr := hrl
   have hrv : (R.getD i default).length = w ∧ w ≤ 1000 := ⟨hRi.1, hw⟩
   have hrb := hRi.2
   refine den_region TTok ?_
   intro K hK
   have hr5 := RdS.rowN rR i (by omega)
   have hlhr5 := RdS.le hr5
   simp -implicitDefEqProofs (disch := first | decide | assumption | omega) only [go_sem, ld55, RdS.al rR (Ext.pres eB) sl59, R1.al hr5 (Ext.pres eB) sl55, RdS.an (OS.rd hL) sl59, wrap_id]
   try simp -implicitDefEqProofs (disch := first | decide | assumption | omega) only [go_sem, RdS.al rR (Ext.pres eB) sl59, R1.al hr5 (Ext.pres eB) sl55, RdS.an (OS.rd hL) sl59, wrap_id]
   refine CallA.mono (sRest_ok _ _ p L ((R).getD i default) _ (OS.rd hL) (RdS.pres hr5 (Ext.pres eB)) hP hrr hrv hrb) ?_
   intro vw5_6_0 h5_6
   rintro ⟨zvw5_6_0, fw5_6_0, rfl, how5_6_0, hfw5_6_0, e5_6⟩
   replace hL := OS.ext hL e5_6
   have := Ext.size e5_6
   replace eB := Ext.trans eB e5_6
   replace cL2 := Chg.stepE cL2 e5_6
   have hlhow5_6_0 := OS.lt how5_6_0
   try simp -implicitDefEqProofs (disch := first | decide | assumption | omega) only [go_sem, RdS.al rR (Ext.pres eB) sl59, R1.al hr5 (Ext.pres eB) sl55, RdS.an (OS.rd hL) sl59, R1.an (OS.rd how5_6_0) sl55, wrap_id]
   refine hK _ _ ?_
   clear hK K
   refine den_seq ?_
   refine den_region TTok ?_
   intro K hK
   simp -implicitDefEqProofs (disch := first | decide | assumption | omega) only [go_sem, RdS.al rR (Ext.pres eB) sl59, R1.al hr5 (Ext.pres eB) sl55, RdS.an (OS.rd hL) sl59, R1.an (OS.rd how5_6_0) sl55, wrap_id]
   try simp -implicitDefEqProofs (disch := first | decide | assumption | omega) only [go_sem, RdS.al rR (Ext.pres eB) sl59, R1.al hr5 (Ext.pres eB) sl55, RdS.an (OS.rd hL) sl59, R1.an (OS.rd how5_6_0) sl55, wrap_id]
   refine CallA.pure (sLead_ok _ (restP p L ((R).getD i default)) _ (OS.rd how5_6_0)) ?_
   try simp -implicitDefEqProofs (disch := first | decide | assumption | omega) only [go_sem, RdS.al rR (Ext.pres eB) sl59, R1.al hr5 (Ext.pres eB) sl55, RdS.an (OS.rd hL) sl59, R1.an (OS.rd how5_6_0) sl55, wrap_id]
   refine hK _ _ ?_
   clear hK K
   refine den_seq ?_
   refine den_seq ?_
   refine den_region TTok ?_
   intro K hK
   simp -implicitDefEqProofs (disch := first | decide | assumption | omega) only [go_sem, RdS.al rR (Ext.pres eB) sl59, R1.al hr5 (Ext.pres eB) sl55, RdS.an (OS.rd hL) sl59, R1.an (OS.rd how5_6_0) sl55, wrap_id]
   refine hK _ _ ?_
   clear hK K
   refine den_cond rfl (fun c1 => ?_) (fun c1 => ?_)
   ·try simp only [ddA] at c1
    refine den_exit ?_
    refine denX_code ?_
    refine denX_hit ?_
    refine den_region TTok ?_
    intro K hK
    simp -implicitDefEqProofs (disch := first | decide | assumption | omega) only [go_sem, RdS.al rR (Ext.pres eB) sl59, R1.al hr5 (Ext.pres eB) sl55, RdS.an (OS.rd hL) sl59, wrap_id]
    refine hK _ _ ?_
    clear hK K
    refine den_stop ?_
    exact ⟨(i + 1, L, vhL, fphL), by simp [HasL, puts_at], ⟨(by rw [take_snoc (by omega)]; exact Red.skip hred hp.1 hrv.1 hrb c1), by dsimp only; omega, hL, hfhL, sbhL, cL2⟩, by first | omega | (dsimp only; omega)⟩
   ·try simp only [ddA] at c1
    obtain ⟨k0, hk0, hke, hkz, hkn⟩ : ∃ k : Nat, k < (restP p L (R.getD i default)).length ∧ leadP (restP p L (R.getD i default)) = (k : Int) ∧ (∀ j, j < k → (restP p L (R.getD i default)).getD j 0 = 0) ∧ (restP p L (R.getD i default)).getD k 0 ≠ 0 := by
     rcases lead_cases (restP p L (R.getD i default)) with ⟨hm, _⟩ | h
     ·omega
     ·exact h
    rw [hke]
    have hbO := restP_bnd (p := p) (L := L) (by omega) hrb
    have hxk := hbO.at hk0
    have hiv := invP_ok hP (x := (restP p L (R.getD i default)).getD k0 0) (by omega) hxk.2
    have hlO := restP_len p L (R.getD i default)
    have hown : (ownP p L (R.getD i default)) = sclRow p (invP p ((restP p L (R.getD i default)).getD k0 0)) (restP p L (R.getD i default)) := by rw [ownP, hke, Int.toNat_natCast]
    obtain ⟨hok, _⟩ := ownP_ok hP hrr hrv.1 hrb hke
    obtain ⟨hq1, hq2, hq3⟩ := posP_ok (at_ := k0) hrr
    refine den_skip ?_
    refine den_seq ?_
    refine den_region TTok ?_
    intro K hK
    simp -implicitDefEqProofs (disch := first | decide | assumption | omega) only [go_sem, ld2, RdS.al rR (Ext.pres eB) sl59, R1.al hr5 (Ext.pres eB) sl55, RdS.an (OS.rd hL) sl59, R1.an (OS.rd how5_6_0) sl55, wrap_id]
    try simp -implicitDefEqProofs (disch := first | decide | assumption | omega) only [go_sem, RdS.al rR (Ext.pres eB) sl59, R1.al hr5 (Ext.pres eB) sl55, RdS.an (OS.rd hL) sl59, R1.an (OS.rd how5_6_0) sl55, wrap_id]
    refine CallA.mono (sInv_ok  p ((restP p L ((R).getD i default)).getD k0 0) _  hP (by omega)) ?_
    intro v_ h8_5
    rintro ⟨rfl, e8_5⟩
    replace hL := OS.ext hL e8_5
    replace how5_6_0 := OS.ext how5_6_0 e8_5
    have := Ext.size e8_5
    replace eB := Ext.trans eB e8_5
    replace cL2 := Chg.stepE cL2 e8_5
    try simp -implicitDefEqProofs (disch := first | decide | assumption | omega) only [go_sem, RdS.al rR (Ext.pres eB) sl59, R1.al hr5 (Ext.pres eB) sl55, RdS.an (OS.rd hL) sl59, R1.an (OS.rd how5_6_0) sl55, wrap_id]
    refine hK _ _ ?_
    clear hK K
    refine den_seq ?_
    refine den_seq ?_
    refine den_region TTok ?_
    intro K hK
    simp -implicitDefEqProofs (disch := first | decide | assumption | omega) only [go_sem, RdS.al rR (Ext.pres eB) sl59, R1.al hr5 (Ext.pres eB) sl55, RdS.an (OS.rd hL) sl59, R1.an (OS.rd how5_6_0) sl55, wrap_id]
    refine hK _ _ ?_
    clear hK K
    refine den_block ?_
    refine den_sel [10, 0, 1, 5, 6, 7, 8, 9] ?_
    intro env_6
    simp only [go_sem]
    refine den_loopS (σ := Nat) (fun st_ => [(10, .int .i64 (st_ : Int))]) (fun st_ H => (st_ ≤ (restP p L (R.getD i default)).length) ∧ (O1 H vw5_6_0 (mix (sclRow p (invP p ((restP p L (R.getD i default)).getD k0 0)) (restP p L (R.getD i default))) (restP p L (R.getD i default)) st_) fw5_6_0) ∧ (Chg fw5_6_0 h8_5 H)) (fun st_ => (restP p L (R.getD i default)).length - st_) 0 ?_ ?_
    ·exact ⟨by first | (simp; done) | (dsimp only; omega) | (simp; omega), by rw [mix_zero]; exact how5_6_0, Chg.refl _ _⟩
    ·rintro k h9 ee8 ⟨hi0, hS, cL7⟩
     replace hL := OS.chg hL cL7 (apart_lt hlhL hfw5_6_0 (by omega))
     have := cL7.size
     replace eB := Ext.then eB cL7 (ge_of hfw5_6_0 (by omega))
     replace cL2 := Chg.step cL2 cL7 (Sub.fresh hfw5_6_0 (by omega))
     have sbhS : Sub fw5_6_0 h8_5.size fw5_6_0 := Sub.refl
     have hfhS := hfw5_6_0
     have hlhS := hlhow5_6_0
     simp only [List.cons_append, List.nil_append]
     have hml_ := mix_len (sclRow p (invP p ((restP p L (R.getD i default)).getD k0 0)) (restP p L (R.getD i default))) (restP p L (R.getD i default)) k (sclR_len _ _ _)
     refine den_seq ?_
     refine den_seq ?_
     refine den_region TTok ?_
     intro K hK
     simp -implicitDefEqProofs (disch := first | decide | assumption | omega) only [go_sem, RdS.al rR (Ext.pres eB) sl59, R1.al hr5 (Ext.pres eB) sl55, RdS.an (OS.rd hL) sl59, R1.an (OS.rd hS) sl55, wrap_id]
     refine hK _ _ ?_
     clear hK K
     refine den_cond rfl (fun c2 => ?_) (fun c2 => ?_)
     ·try simp only [ddA] at c2
      refine den_skip ?_
      refine den_seq ?_
      refine den_block ?_
      have hmg := mix_get (sclRow p (invP p ((restP p L (R.getD i default)).getD k0 0)) (restP p L (R.getD i default))) (restP p L (R.getD i default)) k 0 (sclR_len _ _ _) (by omega)
      have hxq := hbO.at (k := k) (by omega)
      have hmu := mul36A (x := (mix (sclRow p (invP p ((restP p L (R.getD i default)).getD k0 0)) (restP p L (R.getD i default))) (restP p L (R.getD i default)) k).getD k 0) (y := (invP p ((restP p L (R.getD i default)).getD k0 0))) (p := p) (by omega) ⟨by omega, hiv.1.2⟩ hp.2
      refine den_region TTok ?_
      intro K hK
      simp -implicitDefEqProofs (disch := first | decide | assumption | omega) only [go_sem, ld2, RdS.al rR (Ext.pres eB) sl59, R1.al hr5 (Ext.pres eB) sl55, RdS.an (OS.rd hL) sl59, R1.an (OS.rd hS) sl55, wrap_id]
      refine op_store1 (j := k) st2 hS hfhS.nodup (by first | omega | (simp; omega)) rfl rfl ?_
      intro h12_11 ho12_11 c12_11
      have hsz12_11 := c12_11.size
      replace hL := OS.chg hL c12_11 (apart_lt hlhL hfhS (by omega))
      have := c12_11.size
      replace eB := Ext.then eB c12_11 (ge_of hfhS (by omega))
      replace cL2 := Chg.step cL2 c12_11 (Sub.fresh hfhS (by omega))
      replace cL7 := Chg.step cL7 c12_11 sbhS
      have hlho12_11 := hlhS
      have hlenho12_11 : ((mix (sclRow p (invP p ((restP p L (R.getD i default)).getD k0 0)) (restP p L (R.getD i default))) (restP p L (R.getD i default)) k).set k (Int.tmod (((mix (sclRow p (invP p ((restP p L (R.getD i default)).getD k0 0)) (restP p L (R.getD i default))) (restP p L (R.getD i default)) k).getD k 0) * (invP p ((restP p L ((R).getD i default)).getD k0 0))) p) : List Int).length = (mix (sclRow p (invP p ((restP p L (R.getD i default)).getD k0 0)) (restP p L (R.getD i default))) (restP p L (R.getD i default)) k : List Int).length := List.length_set
      try simp -implicitDefEqProofs (disch := first | decide | assumption | omega) only [go_sem, RdS.al rR (Ext.pres eB) sl59, R1.al hr5 (Ext.pres eB) sl55, RdS.an (OS.rd hL) sl59, R1.an (OS.rd ho12_11) sl55, wrap_id]
      refine hK _ _ ?_
      clear hK K
      refine den_blk ?_
      refine den_region TTok ?_
      intro K hK
      simp -implicitDefEqProofs (disch := first | decide | assumption | omega) only [go_sem, RdS.al rR (Ext.pres eB) sl59, R1.al hr5 (Ext.pres eB) sl55, RdS.an (OS.rd hL) sl59, R1.an (OS.rd ho12_11) sl55, wrap_id]
      refine hK _ _ ?_
      clear hK K
      refine den_stop ?_
      rw [tmod_e hmu.1, hmg, Int.mul_comm, ← sclR_get p _ (by omega), mix_set _ _ _ _ (sclR_len _ _ _) (by omega)] at ho12_11
      exact ⟨k + 1, by simp [HasL, puts_at], ⟨by first | omega | (dsimp only; omega), ho12_11, cL7⟩, by first | omega | (dsimp only; omega)⟩
     ·try simp only [ddA] at c2
      refine den_exit ?_
      refine denX_code ?_
      refine denX_stop ?_
      refine denX_hit ?_
      refine den_seq ?_
      rw [mix_end _ _ _ (sclR_len _ _ _) (by omega), ← hown] at hS
      have hOl : (ownP p L (R.getD i default)).length = w := hok.len
      refine den_region TTok ?_
      intro K hK
      simp -implicitDefEqProofs (disch := first | decide | assumption | omega) only [go_sem, RdS.al rR (Ext.pres eB) sl59, R1.al hr5 (Ext.pres eB) sl55, RdS.an (OS.rd hL) sl59, R1.an (OS.rd hS) sl55, wrap_id]
      refine op_bs0 sz59 O1 ?_
      intro v13_0 h13_0 ho13_0 e13_0
      replace hL := OS.ext hL e13_0
      replace hS := OS.ext hS e13_0
      have := Ext.size e13_0
      replace eB := Ext.trans eB e13_0
      replace cL2 := Chg.stepE cL2 e13_0
      have hfho13_0 : Fresh h9.size [h9.size] := Fresh.one _
      have hlho13_0 := OS.lt ho13_0
      try simp -implicitDefEqProofs (disch := first | decide | assumption | omega) only [go_sem, RdS.al rR (Ext.pres eB) sl59, R1.al hr5 (Ext.pres eB) sl55, RdS.an (OS.rd hL) sl59, R1.an (OS.rd hS) sl55, RdS.an (OS.rd ho13_0) sl59, wrap_id]
      refine hK _ _ ?_
      clear hK K
      refine den_seq ?_
      refine den_seq ?_
      refine den_region TTok ?_
      intro K hK
      simp -implicitDefEqProofs (disch := first | decide | assumption | omega) only [go_sem, RdS.al rR (Ext.pres eB) sl59, R1.al hr5 (Ext.pres eB) sl55, RdS.an (OS.rd hL) sl59, R1.an (OS.rd hS) sl55, RdS.an (OS.rd ho13_0) sl59, wrap_id]
      refine hK _ _ ?_
      clear hK K
      refine den_block ?_
      refine den_sel [11, 12, 13, 0, 1, 5, 6, 7, 8] ?_
      intro env_10
      simp only [go_sem]
      refine den_loopS (σ := Nat × Bool × Value × List Nat) (fun st_ => [(11, st_.2.2.1), (12, .bool st_.2.1), (13, .int .i64 (st_.1 : Int))]) (fun st_ H => (st_.1 ≤ L.length) ∧ (st_.2.1 = decide (posP L k0 < st_.1)) ∧ (O2B H st_.2.2.1 (nextT p L (ownP p L (R.getD i default)) k0 (posP L k0) vw5_6_0 st_.1) st_.2.2.2) ∧ (Fresh (h9.size) st_.2.2.2) ∧ (Sub [h9.size] h13_0.size st_.2.2.2) ∧ (Chg [h9.size] h13_0 H)) (fun st_ => L.length - st_.1) (0, false, v13_0, [h9.size]) ?_ ?_
      ·exact ⟨by simp, by simp, by rw [nextT_zero]; exact OB.nil ho13_0, hfho13_0, Sub.refl, Chg.refl _ _⟩
      ·rintro ⟨k, b, vhN, fphN⟩ h13 ee12 ⟨hk, hb, hN, hfhN, sbhN, cL11⟩
       dsimp only at hk hb hN hfhN sbhN cL11
       replace hL := OS.chg hL cL11 (apart_lt hlhL hfho13_0 (by omega))
       replace hS := OS.chg hS cL11 (apart_lt hlhS hfho13_0 (by omega))
       have := cL11.size
       replace eB := Ext.then eB cL11 (ge_of hfho13_0 (by omega))
       replace cL2 := Chg.step cL2 cL11 (Sub.fresh hfho13_0 (by omega))
       have hlhN := OS.lt hN
       simp only [List.cons_append, List.nil_append]
       have hnl := nextT_len (p := p) (own := (ownP p L (R.getD i default))) (at_ := k0) (pos := posP L k0) (vo := vw5_6_0) hk
       refine den_seq ?_
       refine den_seq ?_
       refine den_region TTok ?_
       intro K hK
       simp -implicitDefEqProofs (disch := first | decide | assumption | omega) only [go_sem, RdS.al rR (Ext.pres eB) sl59, R1.al hr5 (Ext.pres eB) sl55, RdS.an (OS.rd hL) sl59, R1.an (OS.rd hS) sl55, wrap_id]
       refine hK _ _ ?_
       clear hK K
       refine den_cond rfl (fun c3 => ?_) (fun c3 => ?_)
       ·try simp only [ddA] at c3
        refine den_skip ?_
        refine den_seq ?_
        refine den_block ?_
        refine den_seq ?_
        refine den_seq ?_
        refine den_mergeH [(72, .bool (((!(b)) && (decide ((k0 : Int) < (leadP ((L).getD k default)))))))] [0, 1, 5, 6, 7, 8, 11, 12, 13] ?_ ?_
         -- a way
        ·refine den_region TTok ?_
         intro K hK
         simp -implicitDefEqProofs (disch := first | decide | assumption | (simp (disch := decide) only [gvA, eq_self, if_true, if_false, Bool.false_eq_true]; done) | omega) only [go_sem, RdS.al rR (Ext.pres eB) sl59, R1.al hr5 (Ext.pres eB) sl55, RdS.an (OS.rd hL) sl59, R1.an (OS.rd hS) sl55, wrap_id]
         refine opsP_T (by simp (disch := decide) only [gvA, eq_self, if_true, if_false, Bool.false_eq_true]; rfl) (fun g14 => ?_) (fun g14 => ?_)
         ·have hr15 := RdS.rowN (OS.rd hL) k (by omega)
          have hlhr15 := RdS.le hr15
          have xr16 := Ext.refl h13
          try simp -implicitDefEqProofs (disch := first | decide | assumption | (simp (disch := decide) only [gvA, eq_self, if_true, if_false, Bool.false_eq_true, g14]; done) | omega) only [go_sem, ld55, RdS.al rR (Ext.pres eB) sl59, R1.al hr5 (Ext.pres eB) sl55, RdS.an (OS.rd hL) sl59, R1.an (OS.rd hS) sl55, R1.al hr15 (Ext.pres xr16) sl55, wrap_id, g14, eq_self, if_true, if_false, Bool.false_eq_true]
          try simp -implicitDefEqProofs (disch := first | decide | assumption | omega) only [go_sem, RdS.al rR (Ext.pres eB) sl59, R1.al hr5 (Ext.pres eB) sl55, RdS.an (OS.rd hL) sl59, R1.an (OS.rd hS) sl55, R1.al hr15 (Ext.pres xr16) sl55, wrap_id]
          refine CallA.pure (sLead_ok _ ((L).getD k default) _ (RdS.pres hr15 (Ext.pres xr16))) ?_
          try simp -implicitDefEqProofs (disch := first | decide | assumption | (simp (disch := decide) only [gvA, eq_self, if_true, if_false, Bool.false_eq_true, g14]; done) | omega) only [go_sem, RdS.al rR (Ext.pres eB) sl59, R1.al hr5 (Ext.pres eB) sl55, RdS.an (OS.rd hL) sl59, R1.an (OS.rd hS) sl55, R1.al hr15 (Ext.pres xr16) sl55, wrap_id, g14, eq_self, if_true, if_false, Bool.false_eq_true]
          refine hK _ _ ?_
          clear hK K
          refine den_stop ?_
          refine ⟨?_, rfl⟩
          first | (simp (disch := decide) only [go_sem, g14, eq_self, Bool.true_and, Bool.and_true, Bool.false_and, Bool.and_false, Bool.true_or, Bool.or_true, Bool.false_or, Bool.or_false, if_true, if_false, Bool.false_eq_true]; done) | simp [HasL, sel, puts_at, g14]
         ·try simp -implicitDefEqProofs (disch := first | decide | assumption | (simp (disch := decide) only [gvA, eq_self, if_true, if_false, Bool.false_eq_true, g14]; done) | omega) only [go_sem, RdS.al rR (Ext.pres eB) sl59, R1.al hr5 (Ext.pres eB) sl55, RdS.an (OS.rd hL) sl59, R1.an (OS.rd hS) sl55, wrap_id, g14, eq_self, if_true, if_false, Bool.false_eq_true]
          refine hK _ _ ?_
          clear hK K
          refine den_stop ?_
          refine ⟨?_, rfl⟩
          first | (simp (disch := decide) only [go_sem, g14, eq_self, Bool.true_and, Bool.and_true, Bool.false_and, Bool.and_false, Bool.true_or, Bool.or_true, Bool.false_or, Bool.or_false, if_true, if_false, Bool.false_eq_true]; done) | simp [HasL, sel, puts_at, g14]
        intro en17
        simp (disch := decide) only [go_sem]
        refine den_cond rfl (fun c4 => ?_) (fun c4 => ?_)
        ·try simp only [ddA] at c4
         have hld := hrr.lead (i := k) (by omega)
         have hkp : k = posP L k0 := by
          have h1 := c4
          rw [hb] at h1
          simp only [Bool.not_eq_true', decide_eq_false_iff_not] at h1
          rcases Nat.lt_or_ge k (posP L k0) with h2 | h2
          ·have := hq2 k h2; omega
          ·omega
         refine den_seq ?_
         refine den_region TTok ?_
         intro K hK
         simp -implicitDefEqProofs (disch := first | decide | assumption | omega) only [go_sem, RdS.al rR (Ext.pres eB) sl59, R1.al hr5 (Ext.pres eB) sl55, RdS.an (OS.rd hL) sl59, R1.an (OS.rd hS) sl55, wrap_id]
         refine op_bs1 sz59 rfl (OS.one hS).2 ?_
         try simp -implicitDefEqProofs (disch := first | decide | assumption | omega) only [go_sem, RdS.al rR (Ext.pres eB) sl59, R1.al hr5 (Ext.pres eB) sl55, RdS.an (OS.rd hL) sl59, R1.an (OS.rd hS) sl55, wrap_id]
         refine op_append1 sz59 hN hfhN.nodup (EB.bor (x := (ownP p L (R.getD i default))) (OS.one hS)) List.nodup_nil (Apart.nil _) (by first | omega | (simp; omega)) rfl rfl ?_
         intro v18_3 h18_3 fp18_3 ho18_3 hn18_3 hs18_3 c18_3
         have hsz18_3 := c18_3.size
         have hfho18_3 : Fresh h9.size fp18_3 := Fresh.appd hfhN (Fresh.nil h13.size) (by omega) (by omega) hn18_3 hs18_3
         have sb20 : Sub [h9.size] h13_0.size fp18_3 := Sub.grow sbhN Sub.nil (by omega) hs18_3
         replace hL := OS.chg hL c18_3 (apart_lt hlhL hfhN (by omega))
         replace hS := OS.chg hS c18_3 (apart_lt hlhS hfhN (by omega))
         have := c18_3.size
         replace eB := Ext.then eB c18_3 (ge_of hfhN (by omega))
         replace cL2 := Chg.step cL2 c18_3 (Sub.fresh hfhN (by omega))
         replace cL11 := Chg.step cL11 c18_3 sbhN
         have hlho18_3 := OS.lt ho18_3
         have hla18_3 : (nextT p L (ownP p L (R.getD i default)) k0 (posP L k0) vw5_6_0 k ++ [((ownP p L (R.getD i default)), some vw5_6_0)]).length = (nextT p L (ownP p L (R.getD i default)) k0 (posP L k0) vw5_6_0 k).length + 1 := by rw [List.length_append]; rfl
         try simp -implicitDefEqProofs (disch := first | decide | assumption | omega) only [go_sem, RdS.al rR (Ext.pres eB) sl59, R1.al hr5 (Ext.pres eB) sl55, RdS.an (OS.rd hL) sl59, R1.an (OS.rd hS) sl55, wrap_id]
         refine hK _ _ ?_
         clear hK K
         refine den_region TTok ?_
         intro K hK
         simp -implicitDefEqProofs (disch := first | decide | assumption | omega) only [go_sem, RdS.al rR (Ext.pres eB) sl59, R1.al hr5 (Ext.pres eB) sl55, RdS.an (OS.rd hL) sl59, R1.an (OS.rd hS) sl55, wrap_id]
         refine hK _ _ ?_
         clear hK K
         have hLk := hrr.len k (by omega)
         have hLb := hrr.bnd k (by omega)
         have hkw := hok.lt
         have hlk := hLb.at (k := k0) (by omega)
         have hls : ((L.getD k default).length ≤ (ownP p L (R.getD i default)).length ∧ (L.getD k default).length ≤ 1000) ∧ Bnd p (L.getD k default) ∧ Bnd p (ownP p L (R.getD i default)) := ⟨by omega, hLb, hok.bnd⟩
         refine den_draw TTok mixed [16] [(0, true), (1, true), (2, true), (3, true), (4, true), (5, true), (6, true), (7, true), (8, true), (9, true), (10, true), (11, true), (12, true), (13, true), (14, false), (15, false), (16, false), (17, true)] (by kernel_rfl) ?_
         intro K hK
         have hr21 := RdS.rowN (OS.rd hL) k (by omega)
         have hlhr21 := RdS.le hr21
         have xr22 := Ext.refl h18_3
         have hr23 := RdS.rowN (OS.rd hL) k (by omega)
         have hlhr23 := RdS.le hr23
         have xr24 := Ext.refl h18_3
         simp -implicitDefEqProofs (disch := first | decide | assumption | omega) only [go_sem, ld55, ld2, RdS.al rR (Ext.pres eB) sl59, R1.al hr5 (Ext.pres eB) sl55, RdS.an (OS.rd hL) sl59, R1.an (OS.rd hS) sl55, R1.al hr21 (Ext.pres xr22) sl55, R1.al hr23 (Ext.pres xr24) sl55, wrap_id]
         try simp -implicitDefEqProofs (disch := first | decide | assumption | omega) only [go_sem, RdS.al rR (Ext.pres eB) sl59, R1.al hr5 (Ext.pres eB) sl55, RdS.an (OS.rd hL) sl59, R1.an (OS.rd hS) sl55, R1.al hr21 (Ext.pres xr22) sl55, R1.al hr23 (Ext.pres xr24) sl55, wrap_id]
         refine CallA.mono (sLess_ok _ _ p ((L).getD k default) (ownP p L (R.getD i default)) (((L).getD k default).getD k0 0) _ (RdS.pres hr21 (Ext.pres xr22)) (OS.rd hS) (by omega) hls.1 hls.2.1 hls.2.2 (by omega)) ?_
         intro vw20_14_0 h20_14
         rintro ⟨zvw20_14_0, fw20_14_0, rfl, how20_14_0, hfw20_14_0, e20_14⟩
         replace hL := OS.ext hL e20_14
         replace hS := OS.ext hS e20_14
         replace ho18_3 := OS.ext ho18_3 e20_14
         have := Ext.size e20_14
         replace eB := Ext.trans eB e20_14
         replace xr22 := Ext.trans xr22 e20_14
         replace xr24 := Ext.trans xr24 e20_14
         replace cL2 := Chg.stepE cL2 e20_14
         replace cL11 := Chg.stepE cL11 e20_14
         have hlhow20_14_0 := OS.lt how20_14_0
         try simp (disch := decide) only [outv_some, outv_none, put_puts]
         refine plK_pres (Ext.pres e20_14) ?_
         try simp -implicitDefEqProofs (disch := first | decide | assumption | omega) only [go_sem, RdS.al rR (Ext.pres eB) sl59, R1.al hr5 (Ext.pres eB) sl55, RdS.an (OS.rd hL) sl59, R1.an (OS.rd hS) sl55, R1.an (OS.rd how20_14_0) sl55, R1.al hr21 (Ext.pres xr22) sl55, R1.al hr23 (Ext.pres xr24) sl55, wrap_id]
         refine op_bs1 sz59 rfl (OS.one how20_14_0).2 ?_
         try simp (disch := decide) only [outv_some, outv_none, put_puts]
         refine plK_pres (Ext.pres (Ext.push _ _)) ?_
         try simp -implicitDefEqProofs (disch := first | decide | assumption | omega) only [go_sem, RdS.al rR (Ext.pres eB) sl59, R1.al hr5 (Ext.pres eB) sl55, RdS.an (OS.rd hL) sl59, R1.an (OS.rd hS) sl55, R1.an (OS.rd how20_14_0) sl55, R1.al hr21 (Ext.pres xr22) sl55, R1.al hr23 (Ext.pres xr24) sl55, wrap_id]
         refine op_append1 sz59 ho18_3 hfho18_3.nodup (EB.own how20_14_0) hfw20_14_0.nodup (apart_lt hlho18_3 hfw20_14_0 (by omega)) (by first | omega | (simp; omega)) rfl rfl ?_
         intro v20_16 h20_16 fp20_16 ho20_16 hn20_16 hs20_16 c20_16
         have hsz20_16 := c20_16.size
         have hfho20_16 : Fresh h9.size fp20_16 := Fresh.appd hfho18_3 hfw20_14_0 (by omega) (by omega) hn20_16 hs20_16
         have sb25 : Sub [h9.size] h13_0.size fp20_16 := Sub.grow sb20 (Sub.fresh hfw20_14_0 (by omega)) (by omega) hs20_16
         replace hL := OS.chg hL c20_16 (apart_lt hlhL hfho18_3 (by omega))
         replace hS := OS.chg hS c20_16 (apart_lt hlhS hfho18_3 (by omega))
         have := c20_16.size
         replace eB := Ext.then eB c20_16 (ge_of hfho18_3 (by omega))
         replace cL2 := Chg.step cL2 c20_16 (Sub.fresh hfho18_3 (by omega))
         replace cL11 := Chg.step cL11 c20_16 sb20
         have hlho20_16 := OS.lt ho20_16
         change O2B _ _ (nextT p L (ownP p L (R.getD i default)) k0 (posP L k0) vw5_6_0 k ++ [((ownP p L (R.getD i default)), some vw5_6_0)] ++ [(redR p (ownP p L (R.getD i default)) k0 (L.getD k default), none)]) _ at ho20_16
         try simp (disch := decide) only [outv_some, outv_none, put_puts]
         refine plK_last (by decide) ?_
         try simp -implicitDefEqProofs (disch := first | decide | assumption | omega) only [go_sem, RdS.al rR (Ext.pres eB) sl59, R1.al hr5 (Ext.pres eB) sl55, RdS.an (OS.rd hL) sl59, R1.an (OS.rd hS) sl55, wrap_id]
         refine hK _ _ ?_
         clear hK K
         refine den_blk ?_
         refine den_region TTok ?_
         intro K hK
         simp -implicitDefEqProofs (disch := first | decide | assumption | omega) only [go_sem, RdS.al rR (Ext.pres eB) sl59, R1.al hr5 (Ext.pres eB) sl55, RdS.an (OS.rd hL) sl59, R1.an (OS.rd hS) sl55, wrap_id]
         refine hK _ _ ?_
         clear hK K
         refine den_stop ?_
         first | rw [nextT_at (by omega) hkp] at ho20_16 | rw [nextT_step (by omega) hkp] at ho20_16
         exact ⟨(k + 1, true, v20_16, fp20_16), by simp [HasL, puts_at], ⟨by dsimp only; omega, (decide_eq_true (by omega)).symm, ho20_16, hfho20_16, sb25, cL11⟩, by first | omega | (dsimp only; omega)⟩
        ·try simp only [ddA] at c4
         have hld := hrr.lead (i := k) (by omega)
         have hkp : k ≠ posP L k0 := fun he => by
          have h1 := c4
          rw [hb] at h1
          have h2 := hq3 k (by omega) (by omega)
          have h3 := hok.ne (i := k) (by omega)
          rcases Bool.and_eq_false_iff.1 h1 with h4 | h4
          ·simp only [Bool.not_eq_false', decide_eq_true_eq] at h4; omega
          ·simp only [decide_eq_false_iff_not] at h4; omega
         refine den_skip ?_
         have hLk := hrr.len k (by omega)
         have hLb := hrr.bnd k (by omega)
         have hkw := hok.lt
         have hlk := hLb.at (k := k0) (by omega)
         have hls : ((L.getD k default).length ≤ (ownP p L (R.getD i default)).length ∧ (L.getD k default).length ≤ 1000) ∧ Bnd p (L.getD k default) ∧ Bnd p (ownP p L (R.getD i default)) := ⟨by omega, hLb, hok.bnd⟩
         refine den_draw TTok mixed [16] [(0, true), (1, true), (2, true), (3, true), (4, true), (5, true), (6, true), (7, true), (8, true), (9, true), (10, true), (11, true), (12, true), (13, true), (14, false), (15, false), (16, false), (17, true)] (by kernel_rfl) ?_
         intro K hK
         have hr26 := RdS.rowN (OS.rd hL) k (by omega)
         have hlhr26 := RdS.le hr26
         have xr27 := Ext.refl h13
         have hr28 := RdS.rowN (OS.rd hL) k (by omega)
         have hlhr28 := RdS.le hr28
         have xr29 := Ext.refl h13
         simp -implicitDefEqProofs (disch := first | decide | assumption | omega) only [go_sem, ld55, ld2, RdS.al rR (Ext.pres eB) sl59, R1.al hr5 (Ext.pres eB) sl55, RdS.an (OS.rd hL) sl59, R1.an (OS.rd hS) sl55, R1.al hr26 (Ext.pres xr27) sl55, R1.al hr28 (Ext.pres xr29) sl55, wrap_id]
         try simp -implicitDefEqProofs (disch := first | decide | assumption | omega) only [go_sem, RdS.al rR (Ext.pres eB) sl59, R1.al hr5 (Ext.pres eB) sl55, RdS.an (OS.rd hL) sl59, R1.an (OS.rd hS) sl55, R1.al hr26 (Ext.pres xr27) sl55, R1.al hr28 (Ext.pres xr29) sl55, wrap_id]
         refine CallA.mono (sLess_ok _ _ p ((L).getD k default) (ownP p L (R.getD i default)) (((L).getD k default).getD k0 0) _ (RdS.pres hr26 (Ext.pres xr27)) (OS.rd hS) (by omega) hls.1 hls.2.1 hls.2.2 (by omega)) ?_
         intro vw20_14_1_0 h20_14_1
         rintro ⟨zvw20_14_1_0, fw20_14_1_0, rfl, how20_14_1_0, hfw20_14_1_0, e20_14_1⟩
         replace hL := OS.ext hL e20_14_1
         replace hS := OS.ext hS e20_14_1
         replace hN := OS.ext hN e20_14_1
         have := Ext.size e20_14_1
         replace eB := Ext.trans eB e20_14_1
         replace xr27 := Ext.trans xr27 e20_14_1
         replace xr29 := Ext.trans xr29 e20_14_1
         replace cL2 := Chg.stepE cL2 e20_14_1
         replace cL11 := Chg.stepE cL11 e20_14_1
         have hlhow20_14_1_0 := OS.lt how20_14_1_0
         try simp (disch := decide) only [outv_some, outv_none, put_puts]
         refine plK_pres (Ext.pres e20_14_1) ?_
         try simp -implicitDefEqProofs (disch := first | decide | assumption | omega) only [go_sem, RdS.al rR (Ext.pres eB) sl59, R1.al hr5 (Ext.pres eB) sl55, RdS.an (OS.rd hL) sl59, R1.an (OS.rd hS) sl55, R1.an (OS.rd how20_14_1_0) sl55, R1.al hr26 (Ext.pres xr27) sl55, R1.al hr28 (Ext.pres xr29) sl55, wrap_id]
         refine op_bs1 sz59 rfl (OS.one how20_14_1_0).2 ?_
         try simp (disch := decide) only [outv_some, outv_none, put_puts]
         refine plK_pres (Ext.pres (Ext.push _ _)) ?_
         try simp -implicitDefEqProofs (disch := first | decide | assumption | omega) only [go_sem, RdS.al rR (Ext.pres eB) sl59, R1.al hr5 (Ext.pres eB) sl55, RdS.an (OS.rd hL) sl59, R1.an (OS.rd hS) sl55, R1.an (OS.rd how20_14_1_0) sl55, R1.al hr26 (Ext.pres xr27) sl55, R1.al hr28 (Ext.pres xr29) sl55, wrap_id]
         refine op_append1 sz59 hN hfhN.nodup (EB.own how20_14_1_0) hfw20_14_1_0.nodup (apart_lt hlhN hfw20_14_1_0 (by omega)) (by first | omega | (simp; omega)) rfl rfl ?_
         intro v20_16_1 h20_16_1 fp20_16_1 ho20_16_1 hn20_16_1 hs20_16_1 c20_16_1
         have hsz20_16_1 := c20_16_1.size
         have hfho20_16_1 : Fresh h9.size fp20_16_1 := Fresh.appd hfhN hfw20_14_1_0 (by omega) (by omega) hn20_16_1 hs20_16_1
         have sb30 : Sub [h9.size] h13_0.size fp20_16_1 := Sub.grow sbhN (Sub.fresh hfw20_14_1_0 (by omega)) (by omega) hs20_16_1
         replace hL := OS.chg hL c20_16_1 (apart_lt hlhL hfhN (by omega))
         replace hS := OS.chg hS c20_16_1 (apart_lt hlhS hfhN (by omega))
         have := c20_16_1.size
         replace eB := Ext.then eB c20_16_1 (ge_of hfhN (by omega))
         replace cL2 := Chg.step cL2 c20_16_1 (Sub.fresh hfhN (by omega))
         replace cL11 := Chg.step cL11 c20_16_1 sbhN
         have hlho20_16_1 := OS.lt ho20_16_1
         change O2B _ _ (nextT p L (ownP p L (R.getD i default)) k0 (posP L k0) vw5_6_0 k ++ [(redR p (ownP p L (R.getD i default)) k0 (L.getD k default), none)]) _ at ho20_16_1
         try simp (disch := decide) only [outv_some, outv_none, put_puts]
         refine plK_last (by decide) ?_
         try simp -implicitDefEqProofs (disch := first | decide | assumption | omega) only [go_sem, RdS.al rR (Ext.pres eB) sl59, R1.al hr5 (Ext.pres eB) sl55, RdS.an (OS.rd hL) sl59, R1.an (OS.rd hS) sl55, wrap_id]
         refine hK _ _ ?_
         clear hK K
         refine den_blk ?_
         refine den_region TTok ?_
         intro K hK
         simp -implicitDefEqProofs (disch := first | decide | assumption | omega) only [go_sem, RdS.al rR (Ext.pres eB) sl59, R1.al hr5 (Ext.pres eB) sl55, RdS.an (OS.rd hL) sl59, R1.an (OS.rd hS) sl55, wrap_id]
         refine hK _ _ ?_
         clear hK K
         refine den_stop ?_
         first | rw [nextT_at (by omega) hkp] at ho20_16_1 | rw [nextT_step (by omega) hkp] at ho20_16_1
         exact ⟨(k + 1, b, v20_16_1, fp20_16_1), by simp [HasL, puts_at], ⟨by dsimp only; omega, (hb.trans (decide_eq_decide.2 (by omega))), ho20_16_1, hfho20_16_1, sb30, cL11⟩, by first | omega | (dsimp only; omega)⟩
       ·try simp only [ddA] at c3
        refine den_exit ?_
        refine denX_code ?_
        refine denX_stop ?_
        refine denX_hit ?_
        refine den_seq ?_
        refine den_seq ?_
        refine den_region TTok ?_
        intro K hK
        simp -implicitDefEqProofs (disch := first | decide | assumption | omega) only [go_sem, RdS.al rR (Ext.pres eB) sl59, R1.al hr5 (Ext.pres eB) sl55, R1.an (OS.rd hS) sl55, wrap_id]
        refine hK _ _ ?_
        clear hK K
        refine den_cond rfl (fun c5 => ?_) (fun c5 => ?_)
        ·try simp only [ddA] at c5
         have hkp : k ≤ posP L k0 := by
          have h1 := hb.symm.trans (show b = false by simpa using c5)
          simp only [decide_eq_false_iff_not] at h1
          omega
         refine den_region TTok ?_
         intro K hK
         simp -implicitDefEqProofs (disch := first | decide | assumption | omega) only [go_sem, RdS.al rR (Ext.pres eB) sl59, R1.al hr5 (Ext.pres eB) sl55, R1.an (OS.rd hS) sl55, wrap_id]
         refine op_bs1 sz59 rfl (OS.one hS).2 ?_
         try simp -implicitDefEqProofs (disch := first | decide | assumption | omega) only [go_sem, RdS.al rR (Ext.pres eB) sl59, R1.al hr5 (Ext.pres eB) sl55, R1.an (OS.rd hS) sl55, wrap_id]
         refine op_append1 sz59 hN hfhN.nodup (EB.bor (x := (ownP p L (R.getD i default))) (OS.one hS)) List.nodup_nil (Apart.nil _) (by first | omega | (simp; omega)) rfl rfl ?_
         intro v22_3 h22_3 fp22_3 ho22_3 hn22_3 hs22_3 c22_3
         have hsz22_3 := c22_3.size
         have hfho22_3 : Fresh h9.size fp22_3 := Fresh.appd hfhN (Fresh.nil h13.size) (by omega) (by omega) hn22_3 hs22_3
         replace hS := OS.chg hS c22_3 (apart_lt hlhS hfhN (by omega))
         have := c22_3.size
         replace eB := Ext.then eB c22_3 (ge_of hfhN (by omega))
         replace cL2 := Chg.step cL2 c22_3 (Sub.fresh hfhN (by omega))
         have hlho22_3 := OS.lt ho22_3
         have hla22_3 : (nextT p L (ownP p L (R.getD i default)) k0 (posP L k0) vw5_6_0 k ++ [((ownP p L (R.getD i default)), some vw5_6_0)]).length = (nextT p L (ownP p L (R.getD i default)) k0 (posP L k0) vw5_6_0 k).length + 1 := by rw [List.length_append]; rfl
         try simp -implicitDefEqProofs (disch := first | decide | assumption | omega) only [go_sem, RdS.al rR (Ext.pres eB) sl59, R1.al hr5 (Ext.pres eB) sl55, R1.an (OS.rd hS) sl55, wrap_id]
         refine hK _ _ ?_
         clear hK K
         rw [nextT_end1 (by omega) (by omega)] at ho22_3
         obtain ⟨fpJ, hoJ, hnJ, huJ⟩ := OB.join ho22_3 hfho22_3.nodup hS hfhS.nodup (apart_gt hfho22_3 hlhS (by omega)) (by rw [putT_len hq1]; omega) (putT_at hq1) (fun j hj hne => putT_other hq1 hj hne)
         rw [putT_fst] at hoJ
         have hfhoJ : Fresh (h4.size) fpJ := Fresh.appd (hfho22_3.mono (by omega)) hfhS (by omega) (by omega) hnJ (fun b hb => (huJ b hb).elim .inl (fun h => .inr (.inl h)) : ∀ b ∈ fpJ, b ∈ fp22_3 ∨ b ∈ fw5_6_0 ∨ h22_3.size ≤ b)
         have sb31 : Sub [h.size] h1_0.size fpJ := Sub.grow (Sub.fresh hfho22_3 (by omega)) (Sub.fresh hfhS (by omega)) (by omega) (fun b hb => (huJ b hb).elim .inl (fun h => .inr (.inl h)) : ∀ b ∈ fpJ, b ∈ fp22_3 ∨ b ∈ fw5_6_0 ∨ h22_3.size ≤ b)
         have hlhoJ := OS.lt hoJ
         refine den_region TTok ?_
         intro K hK
         simp -implicitDefEqProofs (disch := first | decide | assumption | omega) only [go_sem, RdS.al rR (Ext.pres eB) sl59, R1.al hr5 (Ext.pres eB) sl55, RdS.an (OS.rd hoJ) sl59, wrap_id]
         refine hK _ _ ?_
         clear hK K
         refine den_blk ?_
         refine den_region TTok ?_
         intro K hK
         simp -implicitDefEqProofs (disch := first | decide | assumption | omega) only [go_sem, RdS.al rR (Ext.pres eB) sl59, R1.al hr5 (Ext.pres eB) sl55, RdS.an (OS.rd hoJ) sl59, wrap_id]
         refine hK _ _ ?_
         clear hK K
         refine den_stop ?_
         exact ⟨(i + 1, putP p L (ownP p L (R.getD i default)) k0 (posP L k0), v22_3, fpJ), by simp [HasL, puts_at], ⟨(by rw [take_snoc (by omega)]; exact Red.put hred hP hrv.1 hrb hke), by dsimp only; omega, hoJ, (hfhoJ.mono (by omega)), sb31, cL2⟩, by first | omega | (dsimp only; omega)⟩
        ·try simp only [ddA] at c5
         have hkp : posP L k0 < k := by
          have h1 := hb.symm.trans (show b = true by simpa using c5)
          simpa only [decide_eq_true_eq] using h1
         refine den_skip ?_
         rw [nextT_end2 (by omega) (by omega)] at hN
         obtain ⟨fpJ, hoJ, hnJ, huJ⟩ := OB.join hN hfhN.nodup hS hfhS.nodup (apart_gt hfhN hlhS (by omega)) (by rw [putT_len hq1]; omega) (putT_at hq1) (fun j hj hne => putT_other hq1 hj hne)
         rw [putT_fst] at hoJ
         have hfhoJ : Fresh (h4.size) fpJ := Fresh.appd (hfhN.mono (by omega)) hfhS (by omega) (by omega) hnJ (fun b hb => (huJ b hb).elim .inl (fun h => .inr (.inl h)) : ∀ b ∈ fpJ, b ∈ fphN ∨ b ∈ fw5_6_0 ∨ h13.size ≤ b)
         have sb32 : Sub [h.size] h1_0.size fpJ := Sub.grow (Sub.fresh hfhN (by omega)) (Sub.fresh hfhS (by omega)) (by omega) (fun b hb => (huJ b hb).elim .inl (fun h => .inr (.inl h)) : ∀ b ∈ fpJ, b ∈ fphN ∨ b ∈ fw5_6_0 ∨ h13.size ≤ b)
         have hlhoJ := OS.lt hoJ
         refine den_region TTok ?_
         intro K hK
         simp -implicitDefEqProofs (disch := first | decide | assumption | omega) only [go_sem, RdS.al rR (Ext.pres eB) sl59, R1.al hr5 (Ext.pres eB) sl55, RdS.an (OS.rd hoJ) sl59, wrap_id]
         refine hK _ _ ?_
         clear hK K
         refine den_blk ?_
         refine den_region TTok ?_
         intro K hK
         simp -implicitDefEqProofs (disch := first | decide | assumption | omega) only [go_sem, RdS.al rR (Ext.pres eB) sl59, R1.al hr5 (Ext.pres eB) sl55, RdS.an (OS.rd hoJ) sl59, wrap_id]
         refine hK _ _ ?_
         clear hK K
         refine den_stop ?_
         exact ⟨(i + 1, putP p L (ownP p L (R.getD i default)) k0 (posP L k0), vhN, fpJ), by simp [HasL, puts_at], ⟨(by rw [take_snoc (by omega)]; exact Red.put hred hP hrv.1 hrb hke), by dsimp only; omega, hoJ, (hfhoJ.mono (by omega)), sb32, cL2⟩, by first | omega | (dsimp only; omega)⟩
  ·try simp only [ddA] at c0
   refine den_exit ?_
   refine denX_code ?_
   refine denX_stop ?_
   refine denX_hit ?_
   refine den_seq ?_
   refine den_region TTok ?_
   intro K hK
   simp -implicitDefEqProofs (disch := first | decide | assumption | omega) only [go_sem, RdS.al rR (Ext.pres eB) sl59, RdS.an (OS.rd hL) sl59, wrap_id]
   refine hK _ _ ?_
   clear hK K
   refine den_ret ?_
   simp (disch := decide) only [resP_1, puts_same, puts_ne]
   have hec : ech p R = L := Red.ech hP hT (by rw [List.take_of_length_le (by omega)] at hred; exact hred)
   rw [hec]
   exact ⟨_, _, rfl, hL, hfhL.mono (by omega), eB⟩
end Go.Proofs.Ytacajcjibhifmaa

namespace Go.Proofs.Ytacajcjibhifmaa
open Go
/-- The first elements of a slice that is read. -/
theorem RdS.takeV {α : Type} {E : Heap → Value → α → Prop} {h : Heap} {v : Value} {xs : List α} {t e : TypeId} {k : IntKind} (hv : RdS E h v xs) (ht : SlT TT t e) {hi : Int} (h0 : 0 ≤ hi) (h1 : hi ≤ xs.length) : ∃ v', sliceV TT t v none (some (.int k hi)) none = some v' ∧ RdS E h v' (xs.take hi.toNat) := by
 obtain ⟨A, c, rfl, hA, hc, hm, hr⟩ := hv
 obtain ⟨i, j, e1, e2, e3, e4⟩ := ht.out
 have hl : (xs.take hi.toNat).length = hi.toNat := by simp; omega
 have hadd : A.map (fun x : Addr => x.add (0 * j.size)) = A := by
  cases A with
  | none => rfl
  | some a => simp [addr_zero]
 refine ⟨.slice A hi.toNat c, ?_, A, c, by rw [hl], ?_, by rw [hl]; omega, by omega, fun q hq => ?_⟩
 ·simp only [sliceV, e1, Option.bind_some, e2, e3, bndsV, bndV]
  rw [if_pos ⟨h0, by omega⟩]
  simp only [Option.bind_some, Option.map_some, Nat.sub_zero]
  rw [hadd]
  simp
 ·rcases hA with hA | hA
  ·exact .inl hA
  ·right; rw [hl]; omega
 ·rw [hl] at hq
  obtain ⟨u, hu, hE⟩ := hr q (by omega)
  exact ⟨u, by cases A <;> exact hu, by rw [List.getElem_take]; exact hE⟩
/-- A row that lies in other blocks, and reads the same wherever these are as they were. -/
def ESt (h0 : Heap) (fE : List Nat) (_ : Heap) (u : Value) (x : List Int) (fp : List Nat) : Prop := fp = [] ∧ (u.oneCell' = true ∧ u.cells = #[u]) ∧ ∀ h' : Heap, (∀ b ∈ fE, h'[b]? = h0[b]?) → R1 h' u x
instance {h0 : Heap} {fE : List Nat} : Own (ESt h0 fE) := ⟨fun _ h => h, (fun h b hb => by rw [h.1] at hb; cases hb), (fun h => h.2.1)⟩
abbrev O2S (h0 : Heap) (fE : List Nat) : Heap → Value → List (List Int) → List Nat → Prop := OS 55 (ESt h0 fE)
theorem O2S.nil {h0 : Heap} {fE : List Nat} {h : Heap} {v : Value} {fp : List Nat} (ho : O2 h v [] fp) : O2S h0 fE h v [] fp := by
 rcases ho with ⟨h1, _, h3⟩ | ⟨b, c, cur, fps, rfl, r⟩
 ·exact .inl ⟨h1, rfl, h3⟩
 ·exact .inr ⟨b, c, cur, fps, rfl, ⟨r.val, r.box, r.size, r.max, r.le, r.len, fun j hj => by simp at hj⟩⟩
theorem O2S.rd {h0 : Heap} {fE : List Nat} {h : Heap} {v : Value} {xs : List (List Int)} {fp : List Nat} (ho : O2S h0 fE h v xs fp) (hag : ∀ b ∈ fE, h[b]? = h0[b]?) : R2 h v xs := by
 rcases ho with ⟨rfl, rfl, _⟩ | ⟨b, c, cur, fps, _, r⟩
 ·exact ⟨none, 0, rfl, .inr rfl, by simp, by omega, fun j hj => by simp at hj⟩
 ·refine ⟨some ⟨b, 0, none⟩, c, r.val, .inl rfl, r.le, r.max, fun j hj => ?_⟩
  obtain ⟨u, f, h1, _, h4⟩ := r.el j hj
  refine ⟨u, ?_, h4.2.2 h hag⟩
  rw [r.val]
  simp only [sA]
  rw [addr_add, r.box.cell, Nat.zero_add, h1]
theorem RdS.oneC {α : Type} {E : Heap → Value → α → Prop} {h : Heap} {v : Value} {xs : List α} (hv : RdS E h v xs) : v.oneCell' = true ∧ v.cells = #[v] := ⟨RdS.one hv, RdS.cells hv⟩
theorem ES.mk {h0 h : Heap} {vE : Value} {E : List (List Int)} {fE : List Nat} (hE : O2 h vE E fE) (hn : fE.Nodup) (hag : ∀ b ∈ fE, h[b]? = h0[b]?) {i : Nat} (hi : i < E.length) {k : IntKind} {lo : Int} (hl0 : 0 ≤ lo) (hl1 : lo ≤ (E.getD i default).length) {u : Value} (hs : sliceV TT 55 (rowV h vE i) (some (.int k lo)) none none = some u) {H : Heap} : ESt h0 fE H u ((E.getD i default).drop lo.toNat) [] := by
 obtain ⟨f, hO, hsub, _, _⟩ := OS.elem hE hn i hi
 have key : ∀ h' : Heap, (∀ b ∈ fE, h'[b]? = h0[b]?) → R1 h' u ((E.getD i default).drop lo.toNat) := fun h' hg => by
  have hO' : O1 h' (rowV h vE i) (E.getD i default) f := Own.loc (fun b hb => by rw [hg b (hsub b hb), hag b (hsub b hb)]) hO
  obtain ⟨v', e1, e2⟩ := RdS.dropV (k := k) (OS.rd hO') sl55 hl0 hl1
  rw [hs] at e1
  injection e1 with e1
  rw [e1]; exact e2
 exact ⟨rfl, RdS.oneC (key h hag), key⟩
/-- Rows with the units behind them. -/
theorem set_unit {r : List Int} {w m i : Nat} (hr : r.length = w) (hi : i < m) : (r ++ List.replicate m 0).set (w + i) 1 = r ++ unitP m i := by
 rw [List.set_append_right _ _ (by omega), hr, Nat.add_sub_cancel_left]; rfl
noncomputable def kerQ (p : Int) (rows : List (List Int)) : List (List Int) := kerP p (wd rows) rows
theorem longP_step {rows : List (List Int)} {k : Nat} (hk : k < rows.length) : ((List.range k).map fun i => rows.getD i default ++ unitP rows.length i) ++ [rows.getD k default ++ unitP rows.length k] = (List.range (k + 1)).map fun i => rows.getD i default ++ unitP rows.length i := range_step (fun i => rows.getD i default ++ unitP rows.length i) k
theorem fm_yes {α β : Type} {f : α → Bool} {g : α → β} {xs : List α} {k : Nat} {d : α} (hk : k < xs.length) (h : f (xs.getD k d) = true) : ((xs.take k).filter f).map g ++ [g (xs.getD k d)] = ((xs.take (k + 1)).filter f).map g := by
 have e : xs.getD k d = xs[k] := by rw [List.getD_eq_getElem?_getD, List.getElem?_eq_getElem hk]; rfl
 rw [e] at h ⊢
 rw [List.take_succ_eq_append_getElem hk, List.filter_append, List.filter_cons, if_pos h, List.map_append]; rfl
theorem fm_no {α β : Type} {f : α → Bool} {g : α → β} {xs : List α} {k : Nat} {d : α} (hk : k < xs.length) (h : f (xs.getD k d) = false) : ((xs.take k).filter f).map g = ((xs.take (k + 1)).filter f).map g := by
 have e : xs.getD k d = xs[k] := by rw [List.getD_eq_getElem?_getD, List.getElem?_eq_getElem hk]; rfl
 rw [e] at h
 rw [List.take_succ_eq_append_getElem hk, List.filter_append, List.filter_cons, if_neg (by rw [h]; decide), List.filter_nil, List.append_nil]
theorem fm_len {α β : Type} {f : α → Bool} {g : α → β} {xs : List α} {k : Nat} (hk : k ≤ xs.length) : (((xs.take k).filter f).map g).length ≤ xs.length := by
 rw [List.length_map]
 have := List.length_filter_le f (xs.take k)
 rw [List.length_take] at this; omega
theorem zero_take {W w : Nat} {p : Int} {E : List (List Int)} {l : Nat → Nat} (r : Rr p W E l) {i : Nat} (hi : i < E.length) : (!(((E.getD i default).take w).any fun x => x != 0)) = decide ((w : Int) ≤ leadP (E.getD i default)) := by
 have hl := r.lead hi
 have hlen := r.len i hi
 have hlt := r.lt i hi
 rw [hl]
 by_cases h : w ≤ l i
 ·have : (((E.getD i default).take w).any fun x => x != 0) = false := by
   rw [List.any_eq_false]
   intro x hx
   obtain ⟨j, hj, rfl⟩ := List.getElem_of_mem hx
   have hj' : j < w := by simp at hj; omega
   have := r.zb i j hi (by omega)
   unfold g2 at this
   rw [List.getD_eq_getElem?_getD (l := E.getD i default), List.getElem?_eq_getElem (by omega)] at this
   rw [List.getElem_take]
   simpa using this
  rw [this]; simp; omega
 ·have : (((E.getD i default).take w).any fun x => x != 0) = true := by
   rw [List.any_eq_true]
   have h1 := r.one i hi
   unfold g2 at h1
   rw [List.getD_eq_getElem?_getD (l := E.getD i default), List.getElem?_eq_getElem (by omega)] at h1
   refine ⟨(E.getD i default)[l i], ?_, by simp only [Option.getD_some] at h1; rw [h1]; decide⟩
   exact List.mem_take_iff_getElem.2 ⟨l i, by omega, rfl⟩
  rw [this]; simp; omega
theorem kerP_tbl {p : Int} {w : Nat} (hP : isP p = true) {rows : List (List Int)} (h : ∀ r ∈ rows, r.length = w ∧ Bnd p r) : ∀ r ∈ kerP p w rows, r.length = rows.length ∧ Bnd p r := fun r hr => by
 obtain ⟨l, hR⟩ := kerP_rr hP h
 obtain ⟨i, hi, rfl⟩ := List.getElem_of_mem hr
 have a := hR.len i hi
 have b := hR.bnd i hi
 rw [List.getD_eq_getElem?_getD, List.getElem?_eq_getElem hi] at a b
 exact ⟨a, b⟩
theorem kerQ_w {p : Int} {w : Nat} {rows : List (List Int)} (h : ∀ r ∈ rows, r.length = w ∧ Bnd p r) (hn : rows ≠ []) : kerQ p rows = kerP p w rows := by rw [kerQ, wd_ok h hn]
theorem kerQ_nil {p : Int} (hp : 1 < p) : kerQ p [] = [] := by
 rw [kerQ, kerP, longP]
 simp only [List.length_nil, List.range_zero, List.map_nil]
 rw [ech_nil hp]; rfl
theorem len_longP (rows : List (List Int)) : (longP rows).length = rows.length := by simp [longP]
theorem ech_len_le {p : Int} {w : Nat} (hP : isP p = true) {rows : List (List Int)} (h : ∀ r ∈ rows, r.length = w ∧ Bnd p r) : (ech p rows).length ≤ w := by
 obtain ⟨⟨l, r⟩, _⟩ := ech_red hP h
 exact r.le_w

set_option maxRecDepth 100000 in
theorem iKernel_ok (vR : Value) (p : Int) (R : List (List Int)) (h : Heap) (rR : R2 h vR R) {w : Nat} (hP : isP p = true) (hT : ∀ r ∈ R, r.length = w ∧ Bnd p r) (hw : w ≤ 500) (hl : R.length ≤ 500) : CallA Try.prog 138 #[.int .i64 p, vR] h fun v' h' => ∃ w0 f0, v' = w0 ∧ O2 h' w0 (kerQ p R) f0 ∧ Fresh h.size f0 ∧ Ext h h' := by
 have hleR := RdS.le rR
 have hp := isP_two hP
 have hLT := longP_tbl hp.1 hT
 have hEl := ech_len_le hP hLT
 obtain ⟨⟨l, hrE⟩, _⟩ := ech_red hP hLT
 have hll := len_longP R
 refine callA_intro TTok (args := [_, _]) Try.func138 (by kernel_rfl) rfl 67 rfl (by simp) [.tmp 4] rfl ?_
 simp only [idxs, Nat.reduceAdd]
 refine den_seq ?_
 refine den_region TTok ?_
 intro K hK
 simp -implicitDefEqProofs (disch := first | decide | assumption | omega) only [go_sem, RdS.al rR (HPres.refl _) sl59, wrap_id, Int.toNat_zero]
 refine hK _ _ ?_
 clear hK K
 refine den_seq ?_
 refine den_region TTok ?_
 intro K hK
 simp -implicitDefEqProofs (disch := first | decide | assumption | omega) only [go_sem, RdS.al rR (HPres.refl _) sl59, wrap_id, Int.toNat_zero]
 refine hK _ _ ?_
 clear hK K
 refine den_seq ?_
 refine den_seq ?_
 refine den_region TTok ?_
 intro K hK
 simp -implicitDefEqProofs (disch := first | decide | assumption | omega) only [go_sem, RdS.al rR (HPres.refl _) sl59, wrap_id, Int.toNat_zero]
 refine hK _ _ ?_
 clear hK K
 refine den_cond rfl (fun c0 => ?_) (fun c0 => ?_)
 ·try simp only [ddA] at c0
  refine den_seq ?_
  refine den_region TTok ?_
  intro K hK
  simp -implicitDefEqProofs (disch := first | decide | assumption | omega) only [go_sem, RdS.al rR (HPres.refl _) sl59, wrap_id, Int.toNat_zero]
  refine hK _ _ ?_
  clear hK K
  refine den_ret ?_
  simp (disch := decide) only [resP_1, puts_same, puts_ne]
  have hz : R = [] := List.length_eq_zero_iff.1 (by omega)
  subst hz
  rw [kerQ_nil hp.1]
  exact ⟨.slice none 0 0, [], rfl, OS.nil, Fresh.nil _, (Ext.refl _)⟩
 ·try simp only [ddA] at c0
  refine den_skip ?_
  refine den_seq ?_
  have hR0 : R ≠ [] := fun e_ => by subst e_; simp at c0
  have hwz : (R.getD 0 default).length = w := (hT _ (getD_mem (show 0 < R.length by omega))).1
  have hz4 := RdS.cellN rR 0 (by omega)
  rw [addr_zero] at hz4
  refine den_region TTok ?_
  intro K hK
  have hr1 := RdS.rowN rR 0 (by omega)
  have hlhr1 := RdS.le hr1
  simp -implicitDefEqProofs (disch := first | decide | assumption | omega) only [go_sem, ld55, RdS.al rR (HPres.refl _) sl59, R1.al hr1 (HPres.refl _) sl55, wrap_id, Int.toNat_zero, hz4, hwz]
  refine op_bs0 sz59 O1 ?_
  intro v4_4 h4_4 ho4_4 e4_4
  have := Ext.size e4_4
  have eB := e4_4
  have hfho4_4 : Fresh h.size [h.size] := Fresh.one _
  have hlho4_4 := OS.lt ho4_4
  try simp -implicitDefEqProofs (disch := first | decide | assumption | omega) only [go_sem, RdS.al rR (Ext.pres eB) sl59, R1.al hr1 (Ext.pres eB) sl55, RdS.an (OS.rd ho4_4) sl59, wrap_id, Int.toNat_zero, hz4, hwz]
  refine hK _ _ ?_
  clear hK K
  refine den_seq ?_
  refine den_seq ?_
  refine den_region TTok ?_
  intro K hK
  simp -implicitDefEqProofs (disch := first | decide | assumption | omega) only [go_sem, RdS.al rR (Ext.pres eB) sl59, R1.al hr1 (Ext.pres eB) sl55, RdS.an (OS.rd ho4_4) sl59, wrap_id, Int.toNat_zero]
  refine hK _ _ ?_
  clear hK K
  refine den_block ?_
  refine den_sel [7, 25, 0, 5, 6, 23, 24] ?_
  intro env_2
  simp only [go_sem]
  refine den_loopS (σ := Nat × Value × List Nat) (fun st_ => [(7, st_.2.1), (25, .int .i64 (st_.1 : Int))]) (fun st_ H => (st_.1 ≤ R.length) ∧ (O2 H st_.2.1 ((List.range st_.1).map fun i => R.getD i default ++ unitP R.length i) st_.2.2) ∧ (Fresh (h.size) st_.2.2) ∧ (Sub [h.size] h4_4.size st_.2.2) ∧ (Chg [h.size] h4_4 H)) (fun st_ => R.length - st_.1) (0, v4_4, [h.size]) ?_ ?_
  ·exact ⟨by first | (simp; done) | (dsimp only; omega) | (simp; omega), by simpa using ho4_4, hfho4_4, Sub.refl, Chg.refl _ _⟩
  ·rintro ⟨k, vhL, fphL⟩ h5 ee4 ⟨hi0, hL, hfhL, sbhL, cL3⟩
   dsimp only at hi0 hL hfhL sbhL cL3
   have := cL3.size
   replace eB := Ext.then eB cL3 (ge_of hfho4_4 (by omega))
   have hlhL := OS.lt hL
   simp only [List.cons_append, List.nil_append]
   have hlo_ : ((List.range k).map fun i => R.getD i default ++ unitP R.length i).length = k := by simp
   refine den_seq ?_
   refine den_region TTok ?_
   intro K hK
   simp -implicitDefEqProofs (disch := first | decide | assumption | omega) only [go_sem, RdS.al rR (Ext.pres eB) sl59, R1.al hr1 (Ext.pres eB) sl55, RdS.an (OS.rd hL) sl59, wrap_id, Int.toNat_zero]
   refine hK _ _ ?_
   clear hK K
   refine den_seq ?_
   refine den_cond rfl (fun c1 => ?_) (fun c1 => ?_)
   ·try simp only [ddA] at c1
    refine den_skip ?_
    refine den_seq ?_
    refine den_block ?_
    refine den_seq ?_
    refine den_region TTok ?_
    intro K hK
    have hr6 := RdS.rowN rR k (by omega)
    have hlhr6 := RdS.le hr6
    simp -implicitDefEqProofs (disch := first | decide | assumption | omega) only [go_sem, ld55, RdS.al rR (Ext.pres eB) sl59, R1.al hr1 (Ext.pres eB) sl55, R1.al hr6 (Ext.pres eB) sl55, RdS.an (OS.rd hL) sl59, wrap_id, Int.toNat_zero]
    refine hK _ _ ?_
    clear hK K
    refine den_seq ?_
    have hRk := hT _ (getD_mem (show k < R.length by omega))
    refine den_region TTok ?_
    intro K hK
    simp -implicitDefEqProofs (disch := first | decide | assumption | omega) only [go_sem, RdS.al rR (Ext.pres eB) sl59, R1.al hr1 (Ext.pres eB) sl55, R1.al hr6 (Ext.pres eB) sl55, RdS.an (OS.rd hL) sl59, wrap_id, Int.toNat_zero]
    try simp -implicitDefEqProofs (disch := first | decide | assumption | omega) only [go_sem, RdS.al rR (Ext.pres eB) sl59, R1.al hr1 (Ext.pres eB) sl55, R1.al hr6 (Ext.pres eB) sl55, RdS.an (OS.rd hL) sl59, wrap_id, Int.toNat_zero]
    refine CallA.mono (clone1_ok _ ((R).getD k default) _ (RdS.pres hr6 (Ext.pres eB)) (by omega)) ?_
    intro vw8_1_0 h8_1
    rintro ⟨zvw8_1_0, fw8_1_0, rfl, how8_1_0, hfw8_1_0, e8_1⟩
    replace hL := OS.ext hL e8_1
    have := Ext.size e8_1
    replace eB := Ext.trans eB e8_1
    replace cL3 := Chg.stepE cL3 e8_1
    have hlhow8_1_0 := OS.lt how8_1_0
    try simp -implicitDefEqProofs (disch := first | decide | assumption | omega) only [go_sem, RdS.al rR (Ext.pres eB) sl59, R1.al hr1 (Ext.pres eB) sl55, R1.al hr6 (Ext.pres eB) sl55, RdS.an (OS.rd hL) sl59, R1.an (OS.rd how8_1_0) sl55, wrap_id, Int.toNat_zero]
    refine op_appendZ (by kernel_rfl) how8_1_0 rfl (by omega) (by first | omega | (simp; omega)) rfl ?_
    intro v8_3 h8_3 fp8_3 ho8_3 hn8_3 hs8_3 c8_3
    have hsz8_3 := c8_3.size
    have hfho8_3 : Fresh h5.size fp8_3 := Fresh.appd hfw8_1_0 (Fresh.nil h8_1.size) (by omega) (by omega) hn8_3 hs8_3
    replace hL := OS.chg hL c8_3 (apart_lt hlhL hfw8_1_0 (by omega))
    have := c8_3.size
    replace eB := Ext.then eB c8_3 (ge_of hfw8_1_0 (by omega))
    replace cL3 := Chg.step cL3 c8_3 (Sub.fresh hfw8_1_0 (by omega))
    have hlho8_3 := OS.lt ho8_3
    try simp -implicitDefEqProofs (disch := first | decide | assumption | omega) only [go_sem, RdS.al rR (Ext.pres eB) sl59, R1.al hr1 (Ext.pres eB) sl55, R1.al hr6 (Ext.pres eB) sl55, RdS.an (OS.rd hL) sl59, R1.an (OS.rd ho8_3) sl55, wrap_id, Int.toNat_zero]
    refine hK _ _ ?_
    clear hK K
    refine den_seq ?_
    have hl9 : (R.getD k default ++ List.replicate ((R.length : Int)).toNat 0).length = w + R.length := by rw [List.length_append, hRk.1, List.length_replicate, Int.toNat_natCast]
    refine den_region TTok ?_
    intro K hK
    simp -implicitDefEqProofs (disch := first | decide | assumption | omega) only [go_sem, RdS.al rR (Ext.pres eB) sl59, R1.al hr1 (Ext.pres eB) sl55, R1.al hr6 (Ext.pres eB) sl55, RdS.an (OS.rd hL) sl59, R1.an (OS.rd ho8_3) sl55, wrap_id, Int.toNat_zero]
    refine op_store1 (j := (((w : Int) + (k : Int))).toNat) st2 ho8_3 hfho8_3.nodup (by first | omega | (simp; omega)) rfl rfl ?_
    intro h9_5 ho9_5 c9_5
    have hsz9_5 := c9_5.size
    replace hL := OS.chg hL c9_5 (apart_lt hlhL hfho8_3 (by omega))
    have := c9_5.size
    replace eB := Ext.then eB c9_5 (ge_of hfho8_3 (by omega))
    replace cL3 := Chg.step cL3 c9_5 (Sub.fresh hfho8_3 (by omega))
    have hlho9_5 := hlho8_3
    have hlenho9_5 : ((((R).getD k default) ++ List.replicate (((R).length : Int)).toNat 0).set ((((w : Int) + (k : Int))).toNat) (1 : Int) : List Int).length = (((R).getD k default) ++ List.replicate (((R).length : Int)).toNat 0 : List Int).length := List.length_set
    rw [show ((w : Int) + (k : Int)).toNat = w + k by omega, Int.toNat_natCast, set_unit hRk.1 (by omega)] at ho9_5
    try simp -implicitDefEqProofs (disch := first | decide | assumption | omega) only [go_sem, RdS.al rR (Ext.pres eB) sl59, R1.al hr1 (Ext.pres eB) sl55, R1.al hr6 (Ext.pres eB) sl55, RdS.an (OS.rd hL) sl59, R1.an (OS.rd ho9_5) sl55, wrap_id, Int.toNat_zero]
    refine hK _ _ ?_
    clear hK K
    refine den_region TTok ?_
    intro K hK
    simp -implicitDefEqProofs (disch := first | decide | assumption | omega) only [go_sem, RdS.al rR (Ext.pres eB) sl59, R1.al hr1 (Ext.pres eB) sl55, R1.al hr6 (Ext.pres eB) sl55, RdS.an (OS.rd hL) sl59, R1.an (OS.rd ho9_5) sl55, wrap_id, Int.toNat_zero]
    refine op_bs1 sz59 rfl (OS.one ho9_5).2 ?_
    try simp -implicitDefEqProofs (disch := first | decide | assumption | omega) only [go_sem, RdS.al rR (Ext.pres eB) sl59, R1.al hr1 (Ext.pres eB) sl55, R1.al hr6 (Ext.pres eB) sl55, RdS.an (OS.rd hL) sl59, R1.an (OS.rd ho9_5) sl55, wrap_id, Int.toNat_zero]
    refine op_append1 sz59 hL hfhL.nodup ho9_5 hfho8_3.nodup (apart_lt hlhL hfho8_3 (by omega)) (by first | omega | (simp; omega)) rfl rfl ?_
    intro v10_3 h10_3 fp10_3 ho10_3 hn10_3 hs10_3 c10_3
    have hsz10_3 := c10_3.size
    have hfho10_3 : Fresh h.size fp10_3 := Fresh.appd hfhL hfho8_3 (by omega) (by omega) hn10_3 hs10_3
    have sb7 : Sub [h.size] h4_4.size fp10_3 := Sub.grow sbhL (Sub.fresh hfho8_3 (by omega)) (by omega) hs10_3
    have := c10_3.size
    replace eB := Ext.then eB c10_3 (ge_of hfhL (by omega))
    replace cL3 := Chg.step cL3 c10_3 sbhL
    have hlho10_3 := OS.lt ho10_3
    try simp -implicitDefEqProofs (disch := first | decide | assumption | omega) only [go_sem, RdS.al rR (Ext.pres eB) sl59, R1.al hr1 (Ext.pres eB) sl55, R1.al hr6 (Ext.pres eB) sl55, RdS.an (OS.rd ho10_3) sl59, wrap_id, Int.toNat_zero]
    refine hK _ _ ?_
    clear hK K
    refine den_blk ?_
    refine den_region TTok ?_
    intro K hK
    simp -implicitDefEqProofs (disch := first | decide | assumption | omega) only [go_sem, RdS.al rR (Ext.pres eB) sl59, R1.al hr1 (Ext.pres eB) sl55, R1.al hr6 (Ext.pres eB) sl55, RdS.an (OS.rd ho10_3) sl59, wrap_id, Int.toNat_zero]
    refine hK _ _ ?_
    clear hK K
    refine den_stop ?_
    rw [longP_step (by omega)] at ho10_3
    exact ⟨(k + 1, v10_3, fp10_3), by simp [HasL, puts_at], ⟨by first | omega | (dsimp only; omega), ho10_3, hfho10_3, sb7, cL3⟩, by first | omega | (dsimp only; omega)⟩
   ·try simp only [ddA] at c1
    refine den_exit ?_
    refine denX_code ?_
    refine denX_stop ?_
    refine denX_hit ?_
    refine den_seq ?_
    refine den_region TTok ?_
    intro K hK
    simp -implicitDefEqProofs (disch := first | decide | assumption | omega) only [go_sem, RdS.al rR (Ext.pres eB) sl59, R1.al hr1 (Ext.pres eB) sl55, RdS.an (OS.rd hL) sl59, wrap_id, Int.toNat_zero]
    refine op_bs0 sz59 O1 ?_
    intro v12_0 h12_0 ho12_0 e12_0
    replace hL := OS.ext hL e12_0
    have := Ext.size e12_0
    replace eB := Ext.trans eB e12_0
    have hfho12_0 : Fresh h5.size [h5.size] := Fresh.one _
    have hlho12_0 := OS.lt ho12_0
    try simp -implicitDefEqProofs (disch := first | decide | assumption | omega) only [go_sem, RdS.al rR (Ext.pres eB) sl59, R1.al hr1 (Ext.pres eB) sl55, RdS.an (OS.rd hL) sl59, RdS.an (OS.rd ho12_0) sl59, wrap_id, Int.toNat_zero]
    refine hK _ _ ?_
    clear hK K
    refine den_seq ?_
    refine den_seq ?_
    rw [show ((List.range k).map fun i => R.getD i default ++ unitP R.length i) = longP R by rw [longP, show R.length = k by omega]] at hL
    have hredT := hLT
    refine den_region TTok ?_
    intro K hK
    simp -implicitDefEqProofs (disch := first | decide | assumption | omega) only [go_sem, RdS.al rR (Ext.pres eB) sl59, R1.al hr1 (Ext.pres eB) sl55, RdS.an (OS.rd hL) sl59, RdS.an (OS.rd ho12_0) sl59, wrap_id, Int.toNat_zero]
    try simp -implicitDefEqProofs (disch := first | decide | assumption | omega) only [go_sem, RdS.al rR (Ext.pres eB) sl59, R1.al hr1 (Ext.pres eB) sl55, RdS.an (OS.rd hL) sl59, RdS.an (OS.rd ho12_0) sl59, wrap_id, Int.toNat_zero]
    refine CallA.mono (iReduce_ok _ p (longP R) _ (OS.rd hL) hP hredT (by omega) (by omega)) ?_
    intro vw13_2_0 h13_2
    rintro ⟨zvw13_2_0, fw13_2_0, rfl, how13_2_0, hfw13_2_0, e13_2⟩
    replace hL := OS.ext hL e13_2
    replace ho12_0 := OS.ext ho12_0 e13_2
    have := Ext.size e13_2
    replace eB := Ext.trans eB e13_2
    have hlhow13_2_0 := OS.lt how13_2_0
    try simp -implicitDefEqProofs (disch := first | decide | assumption | omega) only [go_sem, RdS.al rR (Ext.pres eB) sl59, R1.al hr1 (Ext.pres eB) sl55, RdS.an (OS.rd hL) sl59, RdS.an (OS.rd ho12_0) sl59, RdS.an (OS.rd how13_2_0) sl59, wrap_id, Int.toNat_zero]
    refine hK _ _ ?_
    clear hK K
    refine den_block ?_
    have hkl := hlhow13_2_0
    have hka := (apart_gt hfw13_2_0 hlho12_0 (by omega))
    refine den_sel [11, 49, 0, 6, 47, 48] ?_
    intro env_8
    simp only [go_sem]
    refine den_loopS (σ := Nat × Value × List Nat) (fun st_ => [(11, st_.2.1), (49, .int .i64 (st_.1 : Int))]) (fun st_ H => (st_.1 ≤ (ech p (longP R)).length) ∧ (O2S h13_2 fw13_2_0 H st_.2.1 ((((ech p (longP R)).take st_.1).filter (fun r : List Int => decide ((w : Int) ≤ leadP r))).map (fun r : List Int => r.drop w)) st_.2.2) ∧ (Fresh (h5.size) st_.2.2) ∧ (Sub [h5.size] h13_2.size st_.2.2) ∧ (Chg [h5.size] h13_2 H)) (fun st_ => (ech p (longP R)).length - st_.1) (0, v12_0, [h5.size]) ?_ ?_
    ·exact ⟨by simp, by simpa using O2S.nil ho12_0, hfho12_0, Sub.refl, Chg.refl _ _⟩
    ·rintro ⟨k, vhN, fphN⟩ h11 ee10 ⟨hk, hN, hfhN, sbhN, cL9⟩
     dsimp only at hk hN hfhN sbhN cL9
     replace hL := OS.chg hL cL9 (apart_lt hlhL hfho12_0 (by omega))
     replace how13_2_0 := OS.chg how13_2_0 cL9 (apart_gt hfw13_2_0 hlho12_0 (by omega))
     have := cL9.size
     replace eB := Ext.then eB cL9 (ge_of hfho12_0 (by omega))
     have ap12 : Apart fw13_2_0 fphN := Apart.sub_ hlhow13_2_0 (by omega) (apart_gt hfw13_2_0 hlho12_0 (by omega)) sbhN
     have hlhN := OS.lt hN
     simp only [List.cons_append, List.nil_append]
     have hol := fm_len (f := (fun r : List Int => decide ((w : Int) ≤ leadP r))) (g := (fun r : List Int => r.drop w)) (xs := (ech p (longP R))) hk
     refine den_seq ?_
     refine den_region TTok ?_
     intro K hK
     simp -implicitDefEqProofs (disch := first | decide | assumption | omega) only [go_sem, RdS.al rR (Ext.pres eB) sl59, R1.al hr1 (Ext.pres eB) sl55, RdS.an (OS.rd how13_2_0) sl59, wrap_id, Int.toNat_zero]
     refine hK _ _ ?_
     clear hK K
     refine den_seq ?_
     refine den_cond rfl (fun c2 => ?_) (fun c2 => ?_)
     ·try simp only [ddA] at c2
      refine den_skip ?_
      refine den_seq ?_
      refine den_block ?_
      refine den_seq ?_
      refine den_region TTok ?_
      intro K hK
      have hr13 := RdS.rowN (OS.rd how13_2_0) k (by omega)
      have hlhr13 := RdS.le hr13
      have xr14 := Ext.refl h11
      simp -implicitDefEqProofs (disch := first | decide | assumption | omega) only [go_sem, ld55, RdS.al rR (Ext.pres eB) sl59, R1.al hr1 (Ext.pres eB) sl55, RdS.an (OS.rd how13_2_0) sl59, R1.al hr13 (Ext.pres xr14) sl55, wrap_id, Int.toNat_zero]
      refine hK _ _ ?_
      clear hK K
      refine den_seq ?_
      obtain ⟨vs, hes, hRs17⟩ := RdS.dropV (k := .i64) (RdS.rowN (OS.rd how13_2_0) k (by omega)) sl55 (lo := (w : Int)) (by omega) (by have := hrE.len k (by omega); omega)
      have hES := fun H => ES.mk (H := H) how13_2_0 hfw13_2_0.nodup (h0 := h13_2) (fun b hb => cL9.block b (hkl b hb) (hka b hb)) (show k < (ech p (longP R)).length by omega) (k := .i64) (lo := (w : Int)) (by omega) (by have := hrE.len k (by omega); omega) hes
      simp only [Int.toNat_natCast] at hES
      obtain ⟨vz, hez, hRz⟩ := RdS.takeV (k := .i64) (RdS.rowN (OS.rd how13_2_0) k (by omega)) sl55 (hi := (w : Int)) (by omega) (by have := hrE.len k (by omega); omega)
      rw [Int.toNat_natCast] at hRz
      have hzt := zero_take (w := w) hrE (i := k) (by omega)
      refine den_region TTok ?_
      intro K hK
      simp -implicitDefEqProofs (disch := first | decide | assumption | omega) only [go_sem, RdS.al rR (Ext.pres eB) sl59, R1.al hr1 (Ext.pres eB) sl55, RdS.an (OS.rd how13_2_0) sl59, R1.al hr13 (Ext.pres xr14) sl55, wrap_id, Int.toNat_zero, hez, Option.map_some, Option.map_none]
      try simp -implicitDefEqProofs (disch := first | decide | assumption | omega) only [go_sem, RdS.al rR (Ext.pres eB) sl59, R1.al hr1 (Ext.pres eB) sl55, RdS.an (OS.rd how13_2_0) sl59, R1.al hr13 (Ext.pres xr14) sl55, wrap_id, Int.toNat_zero, hez, Option.map_some, Option.map_none]
      refine CallA.mono (isZero_ok _ _ _ hRz) ?_
      intro v_ h16_3
      rintro ⟨rfl, e16_3⟩
      replace how13_2_0 := OS.ext how13_2_0 e16_3
      replace hN := OS.ext hN e16_3
      have := Ext.size e16_3
      replace eB := Ext.trans eB e16_3
      replace xr14 := Ext.trans xr14 e16_3
      replace cL9 := Chg.stepE cL9 e16_3
      try simp -implicitDefEqProofs (disch := first | decide | assumption | omega) only [go_sem, RdS.al rR (Ext.pres eB) sl59, R1.al hr1 (Ext.pres eB) sl55, RdS.an (OS.rd how13_2_0) sl59, R1.al hr13 (Ext.pres xr14) sl55, wrap_id, Int.toNat_zero, hez, Option.map_some, Option.map_none]
      refine hK _ _ ?_
      clear hK K
      refine den_cond rfl (fun c3 => ?_) (fun c3 => ?_)
      ·try simp only [ddA] at c3
       refine den_region TTok ?_
       intro K hK
       simp -implicitDefEqProofs (disch := first | decide | assumption | omega) only [go_sem, RdS.al rR (Ext.pres eB) sl59, R1.al hr1 (Ext.pres eB) sl55, RdS.an (OS.rd how13_2_0) sl59, R1.al hr13 (Ext.pres xr14) sl55, wrap_id, Int.toNat_zero, hes, Option.map_some, Option.map_none]
       refine op_bs1 sz59 rfl (RdS.cells hRs17) ?_
       try simp -implicitDefEqProofs (disch := first | decide | assumption | omega) only [go_sem, RdS.al rR (Ext.pres eB) sl59, R1.al hr1 (Ext.pres eB) sl55, RdS.an (OS.rd how13_2_0) sl59, R1.al hr13 (Ext.pres xr14) sl55, wrap_id, Int.toNat_zero, hes, Option.map_some, Option.map_none]
       refine op_append1 sz59 hN hfhN.nodup (hES _) List.nodup_nil (Apart.nil _) (by first | omega | (simp; omega)) rfl rfl ?_
       intro v17_5 h17_5 fp17_5 ho17_5 hn17_5 hs17_5 c17_5
       have hsz17_5 := c17_5.size
       have hfho17_5 : Fresh h5.size fp17_5 := Fresh.appd hfhN (Fresh.nil h16_3.size) (by omega) (by omega) hn17_5 hs17_5
       have sb15 : Sub [h5.size] h13_2.size fp17_5 := Sub.grow sbhN Sub.nil (by omega) hs17_5
       replace how13_2_0 := OS.chg how13_2_0 c17_5 ap12
       have := c17_5.size
       replace eB := Ext.then eB c17_5 (ge_of hfhN (by omega))
       replace cL9 := Chg.step cL9 c17_5 sbhN
       have ap16 : Apart fw13_2_0 fp17_5 := Apart.grow hlhow13_2_0 (by omega) ap12 (Apart.nil _) hs17_5
       have hlho17_5 := OS.lt ho17_5
       try simp -implicitDefEqProofs (disch := first | decide | assumption | omega) only [go_sem, RdS.al rR (Ext.pres eB) sl59, R1.al hr1 (Ext.pres eB) sl55, RdS.an (OS.rd how13_2_0) sl59, wrap_id, Int.toNat_zero, hes, Option.map_some, Option.map_none]
       refine hK _ _ ?_
       clear hK K
       refine den_blk ?_
       refine den_region TTok ?_
       intro K hK
       simp -implicitDefEqProofs (disch := first | decide | assumption | omega) only [go_sem, RdS.al rR (Ext.pres eB) sl59, R1.al hr1 (Ext.pres eB) sl55, RdS.an (OS.rd how13_2_0) sl59, wrap_id, Int.toNat_zero]
       refine hK _ _ ?_
       clear hK K
       refine den_stop ?_
       first | rw [fm_yes (f := (fun r : List Int => decide ((w : Int) ≤ leadP r))) (g := (fun r : List Int => r.drop w)) (by omega) (hzt.symm.trans (by simpa using c3))] at ho17_5 | rw [fm_no (f := (fun r : List Int => decide ((w : Int) ≤ leadP r))) (g := (fun r : List Int => r.drop w)) (d := default) (by omega) (hzt.symm.trans (by simpa using c3))] at ho17_5
       exact ⟨(k + 1, v17_5, fp17_5), by simp [HasL, puts_at], ⟨by first | omega | (dsimp only; omega), ho17_5, hfho17_5, sb15, cL9⟩, by first | omega | (dsimp only; omega)⟩
      ·try simp only [ddA] at c3
       refine den_skip ?_
       refine den_blk ?_
       refine den_region TTok ?_
       intro K hK
       simp -implicitDefEqProofs (disch := first | decide | assumption | omega) only [go_sem, RdS.al rR (Ext.pres eB) sl59, R1.al hr1 (Ext.pres eB) sl55, RdS.an (OS.rd how13_2_0) sl59, R1.al hr13 (Ext.pres xr14) sl55, wrap_id, Int.toNat_zero]
       refine hK _ _ ?_
       clear hK K
       refine den_stop ?_
       first | rw [fm_yes (f := (fun r : List Int => decide ((w : Int) ≤ leadP r))) (g := (fun r : List Int => r.drop w)) (by omega) (hzt.symm.trans (by simpa using c3))] at hN | rw [fm_no (f := (fun r : List Int => decide ((w : Int) ≤ leadP r))) (g := (fun r : List Int => r.drop w)) (d := default) (by omega) (hzt.symm.trans (by simpa using c3))] at hN
       exact ⟨(k + 1, vhN, fphN), by simp [HasL, puts_at], ⟨by first | omega | (dsimp only; omega), hN, hfhN, sbhN, cL9⟩, by first | omega | (dsimp only; omega)⟩
     ·try simp only [ddA] at c2
      refine den_exit ?_
      refine denX_code ?_
      refine denX_stop ?_
      refine denX_hit ?_
      refine den_seq ?_
      rw [show ((((ech p (longP R)).take k).filter (fun r : List Int => decide ((w : Int) ≤ leadP r))).map (fun r : List Int => r.drop w)) = kerP p w R by rw [kerP, List.take_of_length_le (by omega)]] at hN
      obtain ⟨lk, hkr⟩ := kerP_rr hP hT
      have hkl2 : (kerP p w R).length ≤ 1000 := by have := hkr.le_w; omega
      refine den_region TTok ?_
      intro K hK
      simp -implicitDefEqProofs (disch := first | decide | assumption | omega) only [go_sem, RdS.al rR (Ext.pres eB) sl59, R1.al hr1 (Ext.pres eB) sl55, wrap_id, Int.toNat_zero]
      try simp -implicitDefEqProofs (disch := first | decide | assumption | omega) only [go_sem, RdS.al rR (Ext.pres eB) sl59, R1.al hr1 (Ext.pres eB) sl55, wrap_id, Int.toNat_zero]
      refine CallA.mono (iReduce_ok _ p (kerP p w R) _ (O2S.rd hN (fun b hb => cL9.block b (hkl b hb) (hka b hb))) hP (kerP_tbl hP hT) (by omega) hkl2) ?_
      intro vw19_2 h19_2
      rintro ⟨zw19_2, fw19_2, rfl, how19_2, hfw19_2, e19_2⟩
      replace hN := OS.ext hN e19_2
      have := Ext.size e19_2
      replace eB := Ext.trans eB e19_2
      have hlhow19_2 := OS.lt how19_2
      try simp -implicitDefEqProofs (disch := first | decide | assumption | omega) only [go_sem, RdS.al rR (Ext.pres eB) sl59, R1.al hr1 (Ext.pres eB) sl55, RdS.an (OS.rd how19_2) sl59, wrap_id, Int.toNat_zero]
      refine hK _ _ ?_
      clear hK K
      refine den_ret ?_
      simp (disch := decide) only [resP_1, puts_same, puts_ne]
      have hec : ech p (kerP p w R) = kerQ p R := by rw [kerQ_w hT hR0]; exact hkr.self hP
      rw [hec] at how19_2
      exact ⟨_, _, rfl, how19_2, hfw19_2.mono (by omega), eB⟩
end Go.Proofs.Ytacajcjibhifmaa

namespace Go.Proofs.Ytacajcjibhifmaa
open Go
theorem Rr.units (m : Nat) {p : Int} (hp : 1 < p) : Rr p m (unitsP (m : Int)) fun i => i := by
 have hl : (unitsP (m : Int)).length = m := by simp [unitsP]
 have gt : ∀ i, i < m → (unitsP (m : Int)).getD i default = unitP m i := fun i hi => by rw [unitsP, Int.toNat_natCast, getD_map_range _ hi]
 have gg : ∀ i j, i < m → g2 (unitsP (m : Int)) i j = if i = j then 1 else 0 := fun i j hi => by
  rw [g2, gt i hi, unitP, getD_set (by simpa using hi)]
  split
  ·rfl
  ·rcases Nat.lt_or_ge j m with h | h
   ·rw [List.getD_eq_getElem?_getD, List.getElem?_eq_getElem (by simpa using h)]; simp
   ·exact getD_out (by simpa using h)
 refine ⟨fun i hi => ?_, fun i hi => ?_, fun i hi => ?_, fun i hi => ?_, fun i j hi hj => ?_, fun i k hik hk => hik, fun i k hi hk hne => ?_⟩
 ·rw [hl] at hi; rw [gt i hi]; simp [unitP]
 ·rw [hl] at hi; rw [gt i hi]
  intro x hx
  rcases List.mem_or_eq_of_mem_set hx with h2 | h2
  ·have := List.eq_of_mem_replicate h2; omega
  ·omega
 ·rw [hl] at hi; exact hi
 ·rw [hl] at hi; rw [gg i i hi, if_pos rfl]
 ·rw [hl] at hi; rw [gg i j hi, if_neg (by omega)]
 ·rw [hl] at hi hk; rw [gg k i hk, if_neg hne]
theorem longP_nils (m : Nat) : longP (List.replicate m []) = unitsP (m : Int) := by
 rw [longP, unitsP, List.length_replicate, Int.toNat_natCast]
 apply List.map_congr_left
 intro i hi
 rw [List.mem_range] at hi
 rw [getD_repl hi, List.nil_append]
theorem kerQ_nils {p : Int} (hP : isP p = true) (m : Nat) : kerQ p (List.replicate m []) = unitsP (m : Int) := by
 have hw : wd (List.replicate m ([] : List Int)) = 0 := by
  cases m with
  | zero => rfl
  | succ m => rfl
 rw [kerQ, kerP, hw, longP_nils, (Rr.units m (isP_two hP).1).self hP]
 have hf : (unitsP (m : Int)).filter (fun r => decide (((0 : Nat) : Int) ≤ leadP r)) = unitsP (m : Int) := by
  apply List.filter_eq_self.2
  intro r hr
  obtain ⟨i, hi, rfl⟩ := List.getElem_of_mem hr
  have := (Rr.units m (isP_two hP).1).lead hi
  rw [List.getD_eq_getElem?_getD, List.getElem?_eq_getElem hi] at this
  simp only [Option.getD_some] at this
  rw [this]; simp
 rw [hf]
 exact List.map_id'' (fun _ => rfl) _
noncomputable def cycP (X : Cx) (n : Int) : List (List Int) := kerQ X.p (mapP X n)
noncomputable def bndP (X : Cx) (n : Int) : List (List Int) := ech X.p (mapP X (n + 1))
theorem mapP_in {X : Cx} {n : Int} (h0 : 1 ≤ n) (h1 : n ≤ (X.dims.length : Int) - 1) : mapP X n = X.maps.getD (n - 1).toNat default := by rw [mapP, if_pos (in3_iff.2 ⟨h0, h1⟩)]
theorem mapP_out {X : Cx} {n : Int} (h : n ≤ 0 ∨ (X.dims.length : Int) - 1 < n) : mapP X n = List.replicate (dimP X n).toNat [] := by rw [mapP, if_neg (by rw [in3_iff]; omega)]
/-- The rows of a degree: how many, and how long. -/
theorem mapP_tbl {X : Cx} (hC : IsC X) (n : Int) : ((mapP X n).length : Int) = dimP X n ∧ ∀ r ∈ mapP X n, r.length = (if 1 ≤ n then (dimP X (n - 1)).toNat else 0) ∧ Bnd X.p r := by
 have hd := dimP_bnd hC n
 by_cases h : 0 ≤ n ∧ n ≤ (X.dims.length : Int) - 1
 ·obtain ⟨h1, h2⟩ := mapP_ok hC h.1 h.2
  refine ⟨by rw [h1, dimP, if_pos (in3_iff.2 h)], fun r hr => ?_⟩
  have := h2 r hr
  refine ⟨?_, this.2⟩
  split
  ·omega
  ·have e : n - 1 < 0 := by omega
   rw [dimP_out (n := n - 1) (by omega)] at this; omega
 ·rw [mapP_out (by omega), dimP_out h]
  exact ⟨rfl, fun r hr => by cases hr⟩
def mapW (X : Cx) (n : Int) : Nat := if 1 ≤ n then (dimP X (n - 1)).toNat else 0
theorem mapW_le {X : Cx} (hC : IsC X) (n : Int) : mapW X n ≤ 8 := by
 have := dimP_bnd hC (n - 1)
 unfold mapW; split <;> omega
theorem mapP_len {X : Cx} (hC : IsC X) (n : Int) : (mapP X n).length ≤ 8 := by
 have := (mapP_tbl hC n).1
 have := dimP_bnd hC n
 omega
theorem cycP_in {X : Cx} {n : Int} (h0 : 1 ≤ n) (h1 : n ≤ (X.dims.length : Int) - 1) : cycP X n = kerQ X.p (X.maps.getD (n - 1).toNat default) := by rw [cycP, mapP_in h0 h1]
theorem cycP_out {X : Cx} (hC : IsC X) {n : Int} (h : n ≤ 0 ∨ (X.dims.length : Int) - 1 < n) : cycP X n = unitsP (dimP X n) := by
 have := dimP_bnd hC n
 rw [cycP, mapP_out h, kerQ_nils hC.p, show (((dimP X n).toNat : Nat) : Int) = dimP X n by omega]
theorem bndP_in {X : Cx} {n : Int} (h0 : 0 ≤ n) (h1 : n < (X.dims.length : Int) - 1) : bndP X n = ech X.p (X.maps.getD n.toNat default) := by rw [bndP, mapP_in (by omega) (by omega), Int.add_sub_cancel]
theorem bndP_out {X : Cx} (hC : IsC X) {n : Int} (h0 : 0 ≤ n) (h1 : (X.dims.length : Int) - 1 ≤ n) : bndP X n = [] := by
 rw [bndP, mapP_out (by omega), dimP_out (by omega)]
 exact ech_nil (isP_two hC.p).1
/-- The cycles of a degree are reduced. -/
theorem cyc_rr {X : Cx} (hC : IsC X) (n : Int) : ∃ l, Rr X.p (dimP X n).toNat (cycP X n) l := by
 obtain ⟨h1, h2⟩ := mapP_tbl hC n
 have hl : (mapP X n).length = (dimP X n).toNat := by omega
 by_cases hn : mapP X n = []
 ·rw [cycP, hn, kerQ_nil (isP_two hC.p).1]; exact ⟨fun i => i, Rr.nil⟩
 ·rw [cycP, kerQ_w h2 hn, ← hl]; exact kerP_rr hC.p h2
theorem bnd_rr {X : Cx} (hC : IsC X) {n : Int} (h0 : 0 ≤ n) : ∃ l, Rr X.p (dimP X n).toNat (bndP X n) l := by
 obtain ⟨h1, h2⟩ := mapP_tbl hC (n + 1)
 rw [if_pos (by omega), Int.add_sub_cancel] at h2
 exact (ech_red hC.p h2).1
set_option maxRecDepth 100000 in
theorem sKernel_ok (vR : Value) (p : Int) (n : Int) (R : List (List Int)) (h : Heap) (rR : R2 h vR R) {w : Nat} (hP : isP p = true) (hT : ∀ r ∈ R, r.length = w ∧ Bnd p r) (hw : w ≤ 500) (hl : R.length ≤ 500) (hn : n = (R.length : Int)) : CallA Try.prog 110 #[.int .i64 p, .int .i64 n, vR] h fun v' h' => ∃ w0 f0, v' = w0 ∧ O2 h' w0 (kerQ p R) f0 ∧ Fresh h.size f0 ∧ Ext h h' := by
 have hleR := RdS.le rR
 have hp := isP_two hP
 have hLT := longP_tbl hp.1 hT
 have hEl := ech_len_le hP hLT
 obtain ⟨⟨l, hrE⟩, _⟩ := ech_red hP hLT
 have hll := len_longP R
 have hE0 : R = [] → (ech p (longP R)).length = 0 := fun e => by subst e; rw [longP]; simp only [List.length_nil, List.range_zero, List.map_nil]; rw [ech_nil hp.1]; rfl
 refine callA_intro TTok (args := [_, _, _]) Try.func110 (by kernel_rfl) rfl 68 rfl (by simp) [.tmp 6] rfl ?_
 simp only [idxs, Nat.reduceAdd]
 refine den_seq ?_
 refine den_region TTok ?_
 intro K hK
 simp -implicitDefEqProofs (disch := first | decide | assumption | omega) only [go_sem, RdS.al rR (HPres.refl _) sl59, wrap_id]
 refine hK _ _ ?_
 clear hK K
 refine den_seq ?_
 refine den_region TTok ?_
 intro K hK
 simp -implicitDefEqProofs (disch := first | decide | assumption | omega) only [go_sem, RdS.al rR (HPres.refl _) sl59, wrap_id]
 refine op_bs0 sz59 O1 ?_
 intro v1_0 h1_0 ho1_0 e1_0
 have := Ext.size e1_0
 have eB := e1_0
 have hfho1_0 : Fresh h.size [h.size] := Fresh.one _
 have hlho1_0 := OS.lt ho1_0
 try simp -implicitDefEqProofs (disch := first | decide | assumption | omega) only [go_sem, RdS.al rR (Ext.pres eB) sl59, RdS.an (OS.rd ho1_0) sl59, wrap_id]
 refine hK _ _ ?_
 clear hK K
 refine den_seq ?_
 refine den_region TTok ?_
 intro K hK
 simp -implicitDefEqProofs (disch := first | decide | assumption | omega) only [go_sem, RdS.al rR (Ext.pres eB) sl59, RdS.an (OS.rd ho1_0) sl59, wrap_id]
 refine hK _ _ ?_
 clear hK K
 refine den_seq ?_
 refine den_seq ?_
 refine den_region TTok ?_
 intro K hK
 simp -implicitDefEqProofs (disch := first | decide | assumption | omega) only [go_sem, RdS.al rR (Ext.pres eB) sl59, RdS.an (OS.rd ho1_0) sl59, wrap_id]
 refine hK _ _ ?_
 clear hK K
 refine den_block ?_
 refine den_sel [7, 8, 9, 0, 1, 2] ?_
 intro env_1
 simp only [go_sem]
 refine den_loopS (σ := Nat × Nat × Value × List Nat) (fun st_ => [(7, st_.2.2.1), (8, .int .i64 (st_.2.1 : Int)), (9, .int .i64 (st_.1 : Int))]) (fun st_ H => (st_.1 ≤ R.length) ∧ (0 < st_.1 → st_.2.1 = w) ∧ (O2 H st_.2.2.1 ((List.range st_.1).map fun i => R.getD i default ++ unitP R.length i) st_.2.2.2) ∧ (Fresh (h.size) st_.2.2.2) ∧ (Sub [h.size] h1_0.size st_.2.2.2) ∧ (Chg [h.size] h1_0 H)) (fun st_ => R.length - st_.1) (0, 0, v1_0, [h.size]) ?_ ?_
 ·exact ⟨by simp, fun h => absurd h (by simp), by simpa using ho1_0, hfho1_0, Sub.refl, Chg.refl _ _⟩
 ·rintro ⟨m, wn, vhL, fphL⟩ h4 ee3 ⟨hk, hwd_, hL, hfhL, sbhL, cL2⟩
  dsimp only at hk hwd_ hL hfhL sbhL cL2
  have := cL2.size
  replace eB := Ext.then eB cL2 (ge_of hfho1_0 (by omega))
  have hlhL := OS.lt hL
  simp only [List.cons_append, List.nil_append]
  have hlo_ : ((List.range m).map fun i => R.getD i default ++ unitP R.length i).length = m := by simp
  refine den_seq ?_
  refine den_seq ?_
  refine den_region TTok ?_
  intro K hK
  simp -implicitDefEqProofs (disch := first | decide | assumption | omega) only [go_sem, RdS.al rR (Ext.pres eB) sl59, RdS.an (OS.rd hL) sl59, wrap_id]
  refine hK _ _ ?_
  clear hK K
  refine den_cond rfl (fun c0 => ?_) (fun c0 => ?_)
  ·try simp only [ddA] at c0
   refine den_skip ?_
   refine den_seq ?_
   refine den_block ?_
   refine den_seq ?_
   refine den_region TTok ?_
   intro K hK
   simp -implicitDefEqProofs (disch := first | decide | assumption | omega) only [go_sem, RdS.al rR (Ext.pres eB) sl59, RdS.an (OS.rd hL) sl59, wrap_id]
   refine op_make sz55 rfl rfl (by omega) (by omega) OI 0 (fun _ => ⟨rfl, rfl⟩) ?_
   intro v6_1 h6_1 ho6_1 e6_1
   replace hL := OS.ext hL e6_1
   have := Ext.size e6_1
   replace eB := Ext.trans eB e6_1
   replace cL2 := Chg.stepE cL2 e6_1
   have hfho6_1 : Fresh h4.size [h4.size] := Fresh.one _
   have hlenho6_1 : (List.replicate (n).toNat (0 : Int)).length = (n).toNat := List.length_replicate
   have hlho6_1 := OS.lt ho6_1
   try simp -implicitDefEqProofs (disch := first | decide | assumption | omega) only [go_sem, RdS.al rR (Ext.pres eB) sl59, RdS.an (OS.rd hL) sl59, R1.an (OS.rd ho6_1) sl55, wrap_id]
   refine hK _ _ ?_
   clear hK K
   refine den_seq ?_
   refine den_region TTok ?_
   intro K hK
   simp -implicitDefEqProofs (disch := first | decide | assumption | omega) only [go_sem, RdS.al rR (Ext.pres eB) sl59, RdS.an (OS.rd hL) sl59, R1.an (OS.rd ho6_1) sl55, wrap_id]
   refine op_store1 (j := m) st2 ho6_1 hfho6_1.nodup (by first | omega | (simp; omega)) rfl rfl ?_
   intro h7_3 ho7_3 c7_3
   have hsz7_3 := c7_3.size
   replace hL := OS.chg hL c7_3 (apart_lt hlhL hfho6_1 (by omega))
   have := c7_3.size
   replace eB := Ext.then eB c7_3 (ge_of hfho6_1 (by omega))
   replace cL2 := Chg.step cL2 c7_3 (Sub.fresh hfho6_1 (by omega))
   have hlho7_3 := hlho6_1
   have hlenho7_3 : ((List.replicate (n).toNat 0).set m (1 : Int) : List Int).length = (List.replicate (n).toNat 0 : List Int).length := List.length_set
   try simp -implicitDefEqProofs (disch := first | decide | assumption | omega) only [go_sem, RdS.al rR (Ext.pres eB) sl59, RdS.an (OS.rd hL) sl59, R1.an (OS.rd ho7_3) sl55, wrap_id]
   refine hK _ _ ?_
   clear hK K
   refine den_seq ?_
   have hRk := hT _ (getD_mem (show m < R.length by omega))
   refine den_region TTok ?_
   intro K hK
   have hr5 := RdS.rowN rR m (by omega)
   have hlhr5 := RdS.le hr5
   simp -implicitDefEqProofs (disch := first | decide | assumption | omega) only [go_sem, ld55, RdS.al rR (Ext.pres eB) sl59, R1.al hr5 (Ext.pres eB) sl55, RdS.an (OS.rd hL) sl59, R1.an (OS.rd ho7_3) sl55, wrap_id]
   refine hK _ _ ?_
   clear hK K
   refine den_region TTok ?_
   intro K hK
   have hr6 := RdS.rowN rR m (by omega)
   have hlhr6 := RdS.le hr6
   simp -implicitDefEqProofs (disch := first | decide | assumption | omega) only [go_sem, ld55, RdS.al rR (Ext.pres eB) sl59, R1.al hr5 (Ext.pres eB) sl55, R1.al hr6 (Ext.pres eB) sl55, RdS.an (OS.rd hL) sl59, R1.an (OS.rd ho7_3) sl55, wrap_id]
   try simp -implicitDefEqProofs (disch := first | decide | assumption | omega) only [go_sem, RdS.al rR (Ext.pres eB) sl59, R1.al hr5 (Ext.pres eB) sl55, R1.al hr6 (Ext.pres eB) sl55, RdS.an (OS.rd hL) sl59, R1.an (OS.rd ho7_3) sl55, wrap_id]
   refine CallA.mono (sOwn_ok _ ((R).getD m default) _ (RdS.pres hr6 (Ext.pres eB)) (by omega)) ?_
   intro vw9_5_0 h9_5
   rintro ⟨zvw9_5_0, fw9_5_0, rfl, how9_5_0, hfw9_5_0, e9_5⟩
   replace hL := OS.ext hL e9_5
   replace ho7_3 := OS.ext ho7_3 e9_5
   have := Ext.size e9_5
   replace eB := Ext.trans eB e9_5
   replace cL2 := Chg.stepE cL2 e9_5
   have hlhow9_5_0 := OS.lt how9_5_0
   try simp -implicitDefEqProofs (disch := first | decide | assumption | omega) only [go_sem, RdS.al rR (Ext.pres eB) sl59, R1.al hr5 (Ext.pres eB) sl55, R1.al hr6 (Ext.pres eB) sl55, RdS.an (OS.rd hL) sl59, R1.an (OS.rd ho7_3) sl55, R1.an (OS.rd how9_5_0) sl55, wrap_id]
   refine op_appendR how9_5_0 (OS.rd ho7_3) (by first | omega | (simp; omega)) rfl ?_
   intro v9_7 h9_7 fp9_7 ho9_7 hn9_7 hs9_7 c9_7
   have hsz9_7 := c9_7.size
   have hfho9_7 : Fresh h7_3.size fp9_7 := Fresh.appd hfw9_5_0 (Fresh.nil h9_5.size) (by omega) (by omega) hn9_7 hs9_7
   replace hL := OS.chg hL c9_7 (apart_lt hlhL hfw9_5_0 (by omega))
   replace ho7_3 := OS.chg ho7_3 c9_7 (apart_lt hlho7_3 hfw9_5_0 (by omega))
   have := c9_7.size
   replace eB := Ext.then eB c9_7 (ge_of hfw9_5_0 (by omega))
   replace cL2 := Chg.step cL2 c9_7 (Sub.fresh hfw9_5_0 (by omega))
   have hlho9_7 := OS.lt ho9_7
   try simp -implicitDefEqProofs (disch := first | decide | assumption | omega) only [go_sem, RdS.al rR (Ext.pres eB) sl59, R1.al hr5 (Ext.pres eB) sl55, R1.al hr6 (Ext.pres eB) sl55, RdS.an (OS.rd hL) sl59, R1.an (OS.rd ho7_3) sl55, R1.an (OS.rd ho9_7) sl55, wrap_id]
   refine op_bs1 sz59 rfl (OS.one ho9_7).2 ?_
   try simp -implicitDefEqProofs (disch := first | decide | assumption | omega) only [go_sem, RdS.al rR (Ext.pres eB) sl59, R1.al hr5 (Ext.pres eB) sl55, R1.al hr6 (Ext.pres eB) sl55, RdS.an (OS.rd hL) sl59, R1.an (OS.rd ho7_3) sl55, R1.an (OS.rd ho9_7) sl55, wrap_id]
   refine op_append1 sz59 hL hfhL.nodup ho9_7 hfho9_7.nodup (apart_lt hlhL hfho9_7 (by omega)) (by first | omega | (simp; omega)) rfl rfl ?_
   intro v9_9 h9_9 fp9_9 ho9_9 hn9_9 hs9_9 c9_9
   have hsz9_9 := c9_9.size
   have hfho9_9 : Fresh h.size fp9_9 := Fresh.appd hfhL hfho9_7 (by omega) (by omega) hn9_9 hs9_9
   have sb7 : Sub [h.size] h1_0.size fp9_9 := Sub.grow sbhL (Sub.fresh hfho9_7 (by omega)) (by omega) hs9_9
   replace ho7_3 := OS.chg ho7_3 c9_9 (apart_gt hfho6_1 hlhL (by omega))
   have := c9_9.size
   replace eB := Ext.then eB c9_9 (ge_of hfhL (by omega))
   replace cL2 := Chg.step cL2 c9_9 sbhL
   have ap8 : Apart [h4.size] fp9_9 := Apart.grow hlho7_3 (by omega) (apart_gt hfho6_1 hlhL (by omega)) (apart_lt hlho7_3 hfho9_7 (by omega)) hs9_9
   have hlho9_9 := OS.lt ho9_9
   try simp -implicitDefEqProofs (disch := first | decide | assumption | omega) only [go_sem, RdS.al rR (Ext.pres eB) sl59, R1.al hr5 (Ext.pres eB) sl55, R1.al hr6 (Ext.pres eB) sl55, R1.an (OS.rd ho7_3) sl55, RdS.an (OS.rd ho9_9) sl59, wrap_id]
   refine hK _ _ ?_
   clear hK K
   refine den_blk ?_
   refine den_region TTok ?_
   intro K hK
   simp -implicitDefEqProofs (disch := first | decide | assumption | omega) only [go_sem, RdS.al rR (Ext.pres eB) sl59, R1.al hr5 (Ext.pres eB) sl55, R1.al hr6 (Ext.pres eB) sl55, RdS.an (OS.rd ho9_9) sl59, wrap_id]
   refine hK _ _ ?_
   clear hK K
   refine den_stop ?_
   rw [show (List.replicate n.toNat (0 : Int)).set m 1 = unitP R.length m by rw [hn, Int.toNat_natCast]; rfl, longP_step (by omega)] at ho9_9
   exact ⟨(m + 1, (R.getD m default).length, v9_9, fp9_9), by simp [HasL, puts_at], ⟨by dsimp only; omega, (fun _ => hRk.1), ho9_9, hfho9_9, sb7, cL2⟩, by first | omega | (dsimp only; omega)⟩
  ·try simp only [ddA] at c0
   refine den_exit ?_
   refine denX_code ?_
   refine denX_stop ?_
   refine denX_hit ?_
   refine den_seq ?_
   rw [show ((List.range m).map fun i => R.getD i default ++ unitP R.length i) = longP R by rw [longP, show R.length = m by omega]] at hL
   have hredT := hLT
   refine den_region TTok ?_
   intro K hK
   simp -implicitDefEqProofs (disch := first | decide | assumption | omega) only [go_sem, RdS.al rR (Ext.pres eB) sl59, RdS.an (OS.rd hL) sl59, wrap_id]
   try simp -implicitDefEqProofs (disch := first | decide | assumption | omega) only [go_sem, RdS.al rR (Ext.pres eB) sl59, RdS.an (OS.rd hL) sl59, wrap_id]
   refine CallA.mono (sEch_ok _ p (longP R) _ (OS.rd hL) hP hredT (by omega) (by omega)) ?_
   intro vw10_2_0 h10_2
   rintro ⟨zvw10_2_0, fw10_2_0, rfl, how10_2_0, hfw10_2_0, e10_2⟩
   replace hL := OS.ext hL e10_2
   have := Ext.size e10_2
   replace eB := Ext.trans eB e10_2
   have hlhow10_2_0 := OS.lt how10_2_0
   try simp -implicitDefEqProofs (disch := first | decide | assumption | omega) only [go_sem, RdS.al rR (Ext.pres eB) sl59, RdS.an (OS.rd hL) sl59, RdS.an (OS.rd how10_2_0) sl59, wrap_id]
   refine op_bs0 sz59 O1 ?_
   intro v10_3 h10_3 ho10_3 e10_3
   replace hL := OS.ext hL e10_3
   replace how10_2_0 := OS.ext how10_2_0 e10_3
   have := Ext.size e10_3
   replace eB := Ext.trans eB e10_3
   have hfho10_3 : Fresh h10_2.size [h10_2.size] := Fresh.one _
   have hlho10_3 := OS.lt ho10_3
   try simp -implicitDefEqProofs (disch := first | decide | assumption | omega) only [go_sem, RdS.al rR (Ext.pres eB) sl59, RdS.an (OS.rd hL) sl59, RdS.an (OS.rd how10_2_0) sl59, RdS.an (OS.rd ho10_3) sl59, wrap_id]
   refine hK _ _ ?_
   clear hK K
   refine den_seq ?_
   refine den_seq ?_
   refine den_region TTok ?_
   intro K hK
   simp -implicitDefEqProofs (disch := first | decide | assumption | omega) only [go_sem, RdS.al rR (Ext.pres eB) sl59, RdS.an (OS.rd how10_2_0) sl59, RdS.an (OS.rd ho10_3) sl59, wrap_id]
   refine hK _ _ ?_
   clear hK K
   refine den_block ?_
   refine den_sel [12, 13, 8, 11] ?_
   intro env_9
   simp only [go_sem]
   refine den_loopS (σ := Nat × Value × List Nat) (fun st_ => [(12, st_.2.1), (13, .int .i64 (st_.1 : Int))]) (fun st_ H => (st_.1 ≤ (ech p (longP R)).length) ∧ (O2 H st_.2.1 ((((ech p (longP R)).take st_.1).filter (fun r : List Int => decide ((w : Int) ≤ leadP r))).map (fun r : List Int => r.drop w)) st_.2.2) ∧ (Fresh (h10_2.size) st_.2.2) ∧ (Sub [h10_2.size] h10_3.size st_.2.2) ∧ (Chg [h10_2.size] h10_3 H)) (fun st_ => (ech p (longP R)).length - st_.1) (0, v10_3, [h10_2.size]) ?_ ?_
   ·exact ⟨by simp, by simpa using ho10_3, hfho10_3, Sub.refl, Chg.refl _ _⟩
   ·rintro ⟨k, vhN, fphN⟩ h12 ee11 ⟨hk2, hN, hfhN, sbhN, cL10⟩
    dsimp only at hk2 hN hfhN sbhN cL10
    replace how10_2_0 := OS.chg how10_2_0 cL10 (apart_lt hlhow10_2_0 hfho10_3 (by omega))
    have := cL10.size
    replace eB := Ext.then eB cL10 (ge_of hfho10_3 (by omega))
    have hlhN := OS.lt hN
    simp only [List.cons_append, List.nil_append]
    have hol := fm_len (f := (fun r : List Int => decide ((w : Int) ≤ leadP r))) (g := (fun r : List Int => r.drop w)) (xs := (ech p (longP R))) hk2
    refine den_seq ?_
    refine den_seq ?_
    refine den_region TTok ?_
    intro K hK
    simp -implicitDefEqProofs (disch := first | decide | assumption | omega) only [go_sem, RdS.al rR (Ext.pres eB) sl59, RdS.an (OS.rd how10_2_0) sl59, RdS.an (OS.rd hN) sl59, wrap_id]
    refine hK _ _ ?_
    clear hK K
    refine den_cond rfl (fun c1 => ?_) (fun c1 => ?_)
    ·try simp only [ddA] at c1
     refine den_skip ?_
     refine den_seq ?_
     refine den_block ?_
     refine den_seq ?_
     have hR0 : 0 < R.length := Nat.pos_of_ne_zero fun e_ => by have := hE0 (List.length_eq_zero_iff.1 e_); omega
     have hwd := hwd_ (by omega)
     refine den_region TTok ?_
     intro K hK
     have hr13 := RdS.rowN (OS.rd how10_2_0) k (by omega)
     have hlhr13 := RdS.le hr13
     have xr14 := Ext.refl h12
     simp -implicitDefEqProofs (disch := first | decide | assumption | omega) only [go_sem, ld55, RdS.al rR (Ext.pres eB) sl59, RdS.an (OS.rd how10_2_0) sl59, RdS.an (OS.rd hN) sl59, R1.al hr13 (Ext.pres xr14) sl55, wrap_id, hwd]
     try simp -implicitDefEqProofs (disch := first | decide | assumption | omega) only [go_sem, RdS.al rR (Ext.pres eB) sl59, RdS.an (OS.rd how10_2_0) sl59, RdS.an (OS.rd hN) sl59, R1.al hr13 (Ext.pres xr14) sl55, wrap_id, hwd]
     refine CallA.pure (sLead_ok _ ((ech p (longP R)).getD k default) _ (RdS.pres hr13 (Ext.pres xr14))) ?_
     try simp -implicitDefEqProofs (disch := first | decide | assumption | omega) only [go_sem, RdS.al rR (Ext.pres eB) sl59, RdS.an (OS.rd how10_2_0) sl59, RdS.an (OS.rd hN) sl59, R1.al hr13 (Ext.pres xr14) sl55, wrap_id, hwd]
     refine hK _ _ ?_
     clear hK K
     refine den_cond rfl (fun c2 => ?_) (fun c2 => ?_)
     ·try simp only [ddA] at c2
      obtain ⟨vs, hes, hRs⟩ := RdS.dropV (k := .i64) (RdS.rowN (OS.rd how10_2_0) k (by omega)) sl55 (lo := (w : Int)) (by omega) (by have := hrE.len k (by omega); omega)
      rw [Int.toNat_natCast] at hRs
      have hdl_ : (((ech p (longP R)).getD k default).drop w).length ≤ 1000 := by rw [List.length_drop]; have := hrE.len k (by omega); omega
      refine den_region TTok ?_
      intro K hK
      have hr15 := RdS.rowN (OS.rd how10_2_0) k (by omega)
      have hlhr15 := RdS.le hr15
      have xr16 := Ext.refl h12
      simp -implicitDefEqProofs (disch := first | decide | assumption | omega) only [go_sem, ld55, RdS.al rR (Ext.pres eB) sl59, RdS.an (OS.rd how10_2_0) sl59, RdS.an (OS.rd hN) sl59, R1.al hr13 (Ext.pres xr14) sl55, R1.al hr15 (Ext.pres xr16) sl55, wrap_id, hwd, hes, Option.map_some, Option.map_none]
      try simp -implicitDefEqProofs (disch := first | decide | assumption | omega) only [go_sem, RdS.al rR (Ext.pres eB) sl59, RdS.an (OS.rd how10_2_0) sl59, RdS.an (OS.rd hN) sl59, R1.al hr13 (Ext.pres xr14) sl55, R1.al hr15 (Ext.pres xr16) sl55, wrap_id, hwd, hes, Option.map_some, Option.map_none]
      refine CallA.mono (sOwn_ok _ (((ech p (longP R)).getD k default).drop w) _ hRs (by omega)) ?_
      intro vw15_7_0 h15_7
      rintro ⟨zvw15_7_0, fw15_7_0, rfl, how15_7_0, hfw15_7_0, e15_7⟩
      replace how10_2_0 := OS.ext how10_2_0 e15_7
      replace hN := OS.ext hN e15_7
      have := Ext.size e15_7
      replace eB := Ext.trans eB e15_7
      replace xr14 := Ext.trans xr14 e15_7
      replace xr16 := Ext.trans xr16 e15_7
      replace cL10 := Chg.stepE cL10 e15_7
      have hlhow15_7_0 := OS.lt how15_7_0
      try simp -implicitDefEqProofs (disch := first | decide | assumption | omega) only [go_sem, RdS.al rR (Ext.pres eB) sl59, RdS.an (OS.rd how10_2_0) sl59, RdS.an (OS.rd hN) sl59, R1.an (OS.rd how15_7_0) sl55, R1.al hr13 (Ext.pres xr14) sl55, R1.al hr15 (Ext.pres xr16) sl55, wrap_id, hwd, hes, Option.map_some, Option.map_none]
      refine op_bs1 sz59 rfl (OS.one how15_7_0).2 ?_
      try simp -implicitDefEqProofs (disch := first | decide | assumption | omega) only [go_sem, RdS.al rR (Ext.pres eB) sl59, RdS.an (OS.rd how10_2_0) sl59, RdS.an (OS.rd hN) sl59, R1.an (OS.rd how15_7_0) sl55, R1.al hr13 (Ext.pres xr14) sl55, R1.al hr15 (Ext.pres xr16) sl55, wrap_id, hwd, hes, Option.map_some, Option.map_none]
      refine op_append1 sz59 hN hfhN.nodup how15_7_0 hfw15_7_0.nodup (apart_lt hlhN hfw15_7_0 (by omega)) (by first | omega | (simp; omega)) rfl rfl ?_
      intro v15_9 h15_9 fp15_9 ho15_9 hn15_9 hs15_9 c15_9
      have hsz15_9 := c15_9.size
      have hfho15_9 : Fresh h10_2.size fp15_9 := Fresh.appd hfhN hfw15_7_0 (by omega) (by omega) hn15_9 hs15_9
      have sb17 : Sub [h10_2.size] h10_3.size fp15_9 := Sub.grow sbhN (Sub.fresh hfw15_7_0 (by omega)) (by omega) hs15_9
      replace how10_2_0 := OS.chg how10_2_0 c15_9 (apart_lt hlhow10_2_0 hfhN (by omega))
      have := c15_9.size
      replace eB := Ext.then eB c15_9 (ge_of hfhN (by omega))
      replace cL10 := Chg.step cL10 c15_9 sbhN
      have hlho15_9 := OS.lt ho15_9
      try simp -implicitDefEqProofs (disch := first | decide | assumption | omega) only [go_sem, RdS.al rR (Ext.pres eB) sl59, RdS.an (OS.rd how10_2_0) sl59, RdS.an (OS.rd ho15_9) sl59, wrap_id, hwd, hes, Option.map_some, Option.map_none]
      refine hK _ _ ?_
      clear hK K
      refine den_blk ?_
      refine den_region TTok ?_
      intro K hK
      simp -implicitDefEqProofs (disch := first | decide | assumption | omega) only [go_sem, RdS.al rR (Ext.pres eB) sl59, RdS.an (OS.rd how10_2_0) sl59, RdS.an (OS.rd ho15_9) sl59, wrap_id]
      refine hK _ _ ?_
      clear hK K
      refine den_stop ?_
      first | rw [fm_yes (f := (fun r : List Int => decide ((w : Int) ≤ leadP r))) (g := (fun r : List Int => r.drop w)) (by omega) (decide_eq_true (by have h1 := c2; omega))] at ho15_9 | rw [fm_no (f := (fun r : List Int => decide ((w : Int) ≤ leadP r))) (g := (fun r : List Int => r.drop w)) (d := default) (by omega) (decide_eq_false (by have h1 := c2; omega))] at ho15_9
      exact ⟨(k + 1, v15_9, fp15_9), by simp [HasL, puts_at, hwd], ⟨by first | omega | (dsimp only; omega), ho15_9, hfho15_9, sb17, cL10⟩, by first | omega | (dsimp only; omega)⟩
     ·try simp only [ddA] at c2
      refine den_skip ?_
      refine den_blk ?_
      refine den_region TTok ?_
      intro K hK
      simp -implicitDefEqProofs (disch := first | decide | assumption | omega) only [go_sem, RdS.al rR (Ext.pres eB) sl59, RdS.an (OS.rd how10_2_0) sl59, RdS.an (OS.rd hN) sl59, R1.al hr13 (Ext.pres xr14) sl55, wrap_id]
      refine hK _ _ ?_
      clear hK K
      refine den_stop ?_
      first | rw [fm_yes (f := (fun r : List Int => decide ((w : Int) ≤ leadP r))) (g := (fun r : List Int => r.drop w)) (by omega) (decide_eq_true (by have h1 := c2; omega))] at hN | rw [fm_no (f := (fun r : List Int => decide ((w : Int) ≤ leadP r))) (g := (fun r : List Int => r.drop w)) (d := default) (by omega) (decide_eq_false (by have h1 := c2; omega))] at hN
      exact ⟨(k + 1, vhN, fphN), by simp [HasL, puts_at, hwd], ⟨by first | omega | (dsimp only; omega), hN, hfhN, sbhN, cL10⟩, by first | omega | (dsimp only; omega)⟩
    ·try simp only [ddA] at c1
     refine den_exit ?_
     refine denX_code ?_
     refine denX_stop ?_
     refine denX_hit ?_
     refine den_seq ?_
     refine den_region TTok ?_
     intro K hK
     simp -implicitDefEqProofs (disch := first | decide | assumption | omega) only [go_sem, RdS.al rR (Ext.pres eB) sl59, RdS.an (OS.rd hN) sl59, wrap_id]
     refine hK _ _ ?_
     clear hK K
     refine den_ret ?_
     simp (disch := decide) only [resP_1, puts_same, puts_ne]
     have hec : kerQ p R = (((ech p (longP R)).take k).filter (fun r : List Int => decide ((w : Int) ≤ leadP r))).map (fun r : List Int => r.drop w) := by
      by_cases e_ : R = []
      ·subst e_
       rw [kerQ_nil hp.1, List.length_eq_zero_iff.1 (hE0 rfl)]; simp
      ·rw [kerQ_w hT e_, kerP, List.take_of_length_le (i := k) (by omega)]
     rw [hec]
     exact ⟨_, _, rfl, hN, hfhN.mono (by omega), eB⟩

set_option maxRecDepth 100000 in
theorem iCyc_ok (vX : Value) (X : Cx) (n : Int) (h : Heap) (rX : RC h vX X) (hC : IsC X) (hn : -1000 ≤ n ∧ n ≤ 1000) : CallA Try.prog 122 #[vX, .int .i64 n] h fun v' h' => ∃ w0 f0, v' = w0 ∧ O2 h' w0 (cycP X n) f0 ∧ Fresh h.size f0 ∧ Ext h h' := by
 obtain ⟨vdX, vmX, rfl, hdX, hmX⟩ := rX
 have hledX := RdS.le hdX
 have hlemX := RdS.le hmX
 have hml := hC.ml
 have hlX := hC.len
 have hdb := dimP_bnd hC n
 have hpb := isP_bnd hC.p
 refine callA_intro TTok (args := [_, _]) Try.func122 (by kernel_rfl) rfl 26 rfl (by simp) [.tmp 4] rfl ?_
 simp only [idxs, Nat.reduceAdd]
 refine den_seq ?_
 refine den_region TTok ?_
 intro K hK
 simp -implicitDefEqProofs (disch := first | decide | assumption | omega) only [go_sem, R1.al hdX (HPres.refl _) sl55, RdS.al hmX (HPres.refl _) sl56, wrap_id]
 refine op_box (cs := #[.int .i64 (X.p), vdX, vmX]) rfl ?_
 intro h0_0 e0_0 hb0_0 z0_0
 have := Ext.size e0_0
 have eB := e0_0
 have hfhb0_0 : Fresh h.size [h.size] := Fresh.one _
 have hlhb0_0 := one_lt (show h.size < h0_0.size by omega)
 try simp -implicitDefEqProofs (disch := first | decide | assumption | omega) only [go_sem, R1.al hdX (Ext.pres eB) sl55, RdS.al hmX (Ext.pres eB) sl56, BoxAt.cell hb0_0, wrap_id]
 refine hK _ _ ?_
 clear hK K
 refine den_seq ?_
 refine den_seq ?_
 refine den_merge [(12, .bool (((decide (n ≤ (0 : Int))) || (decide ((((X.dims).length : Int) - 1) < n)))))] [1, 2] (fun H => Ext h0_0 H) ?_ ?_
  -- a way
 ·refine den_region TTok ?_
  intro K hK
  simp -implicitDefEqProofs (disch := first | decide | assumption | (simp (disch := decide) only [gvA, eq_self, if_true, if_false, Bool.false_eq_true]; done) | omega) only [go_sem, R1.al hdX (Ext.pres eB) sl55, RdS.al hmX (Ext.pres eB) sl56, BoxAt.cell hb0_0, wrap_id]
  refine opsP_F (by simp (disch := decide) only [gvA, eq_self, if_true, if_false, Bool.false_eq_true]; rfl) (fun g1 => ?_) (fun g1 => ?_)
  ·try simp -implicitDefEqProofs (disch := first | decide | assumption | (simp (disch := decide) only [gvA, eq_self, if_true, if_false, Bool.false_eq_true, g1]; done) | omega) only [go_sem, ld58, R1.al hdX (Ext.pres eB) sl55, RdS.al hmX (Ext.pres eB) sl56, BoxAt.cell hb0_0, wrap_id, g1, eq_self, if_true, if_false, Bool.false_eq_true]
   try simp -implicitDefEqProofs (disch := first | decide | assumption | omega) only [go_sem, R1.al hdX (Ext.pres eB) sl55, RdS.al hmX (Ext.pres eB) sl56, BoxAt.cell hb0_0, wrap_id]
   refine CallA.mono (top_ok _ X _ ⟨_, _, rfl, (RdS.pres hdX (Ext.pres eB)), (RdS.pres hmX (Ext.pres eB))⟩) ?_
   intro v_ h1_5
   rintro ⟨rfl, e1_5⟩
   replace hb0_0 := BoxAt.ext hb0_0 e1_5
   have := Ext.size e1_5
   replace eB := Ext.trans eB e1_5
   try simp -implicitDefEqProofs (disch := first | decide | assumption | (simp (disch := decide) only [gvA, eq_self, if_true, if_false, Bool.false_eq_true, g1]; done) | omega) only [go_sem, R1.al hdX (Ext.pres eB) sl55, RdS.al hmX (Ext.pres eB) sl56, BoxAt.cell hb0_0, wrap_id, g1, eq_self, if_true, if_false, Bool.false_eq_true]
   refine hK _ _ ?_
   clear hK K
   refine den_stop ?_
   refine ⟨?_, e1_5⟩
   first | (simp (disch := decide) only [go_sem, g1, eq_self, Bool.true_and, Bool.and_true, Bool.false_and, Bool.and_false, Bool.true_or, Bool.or_true, Bool.false_or, Bool.or_false, if_true, if_false, Bool.false_eq_true]; done) | simp [HasL, sel, puts_at, g1]
  ·try simp -implicitDefEqProofs (disch := first | decide | assumption | (simp (disch := decide) only [gvA, eq_self, if_true, if_false, Bool.false_eq_true, g1]; done) | omega) only [go_sem, R1.al hdX (Ext.pres eB) sl55, RdS.al hmX (Ext.pres eB) sl56, BoxAt.cell hb0_0, wrap_id, g1, eq_self, if_true, if_false, Bool.false_eq_true]
   refine hK _ _ ?_
   clear hK K
   refine den_stop ?_
   refine ⟨?_, Ext.refl _⟩
   first | (simp (disch := decide) only [go_sem, g1, eq_self, Bool.true_and, Bool.and_true, Bool.false_and, Bool.and_false, Bool.true_or, Bool.or_true, Bool.false_or, Bool.or_false, if_true, if_false, Bool.false_eq_true]; done) | simp [HasL, sel, puts_at, g1]
 intro en2 h3 e4
 replace hb0_0 := BoxAt.ext hb0_0 e4
 have := Ext.size e4
 replace eB := Ext.trans eB e4
 simp (disch := decide) only [go_sem]
 refine den_cond rfl (fun c0 => ?_) (fun c0 => ?_)
 ·try simp only [ddA, Bool.or_eq_false_iff, Bool.or_eq_true] at c0
  refine den_seq ?_
  refine den_region TTok ?_
  intro K hK
  simp -implicitDefEqProofs (disch := first | decide | assumption | omega) only [go_sem, ld58, R1.al hdX (Ext.pres eB) sl55, RdS.al hmX (Ext.pres eB) sl56, BoxAt.cell hb0_0, wrap_id]
  try simp -implicitDefEqProofs (disch := first | decide | assumption | omega) only [go_sem, R1.al hdX (Ext.pres eB) sl55, RdS.al hmX (Ext.pres eB) sl56, BoxAt.cell hb0_0, wrap_id]
  refine CallA.mono (iDim_ok _ X _ _ ⟨_, _, rfl, (RdS.pres hdX (Ext.pres eB)), (RdS.pres hmX (Ext.pres eB))⟩) ?_
  intro v_ h2_2
  rintro ⟨rfl, e2_2⟩
  replace hb0_0 := BoxAt.ext hb0_0 e2_2
  have := Ext.size e2_2
  replace eB := Ext.trans eB e2_2
  try simp -implicitDefEqProofs (disch := first | decide | assumption | omega) only [go_sem, R1.al hdX (Ext.pres eB) sl55, RdS.al hmX (Ext.pres eB) sl56, BoxAt.cell hb0_0, wrap_id]
  try simp -implicitDefEqProofs (disch := first | decide | assumption | omega) only [go_sem, R1.al hdX (Ext.pres eB) sl55, RdS.al hmX (Ext.pres eB) sl56, BoxAt.cell hb0_0, wrap_id]
  refine CallA.mono (iUnits_ok  (dimP X n) _  (by omega)) ?_
  intro vw2_3_0 h2_3
  rintro ⟨zvw2_3_0, fw2_3_0, rfl, how2_3_0, hfw2_3_0, e2_3⟩
  replace hb0_0 := BoxAt.ext hb0_0 e2_3
  have := Ext.size e2_3
  replace eB := Ext.trans eB e2_3
  have hlhow2_3_0 := OS.lt how2_3_0
  try simp -implicitDefEqProofs (disch := first | decide | assumption | omega) only [go_sem, R1.al hdX (Ext.pres eB) sl55, RdS.al hmX (Ext.pres eB) sl56, RdS.an (OS.rd how2_3_0) sl59, BoxAt.cell hb0_0, wrap_id]
  refine hK _ _ ?_
  clear hK K
  refine den_ret ?_
  simp (disch := decide) only [resP_1, puts_same, puts_ne]
  have hz := cycP_out hC (n := n) (by first | omega | (rcases c0 with h | h <;> omega))
  rw [hz]
  exact ⟨_, _, rfl, how2_3_0, hfw2_3_0.mono (by omega), eB⟩
 ·try simp only [ddA, Bool.or_eq_false_iff, Bool.or_eq_true] at c0
  refine den_skip ?_
  refine den_seq ?_
  have hmt := mapP_tbl hC n
  rw [mapP_in (by omega) (by omega)] at hmt
  have hP := hC.p
  have hkerT := hmt.2
  rw [if_pos (show 1 ≤ n by omega)] at hkerT
  have hkw := dimP_bnd hC (n - 1)
  have hkl : (X.maps.getD (n - 1).toNat default).length ≤ 8 := by have := hmt.1; omega
  refine den_draw TTok mixed [] [(0, true), (1, true), (2, true), (3, true), (4, true), (5, true), (6, true), (7, true), (8, false), (9, true)] (by kernel_rfl) ?_
  intro K hK
  have hr5 := RdS.rowN hmX ((n - (1 : Int))).toNat (by omega)
  have hlhr5 := RdS.le hr5
  simp -implicitDefEqProofs (disch := first | decide | assumption | omega) only [go_sem, fa58_0, fa58_2, ld56, ld59, ld2, R1.al hdX (Ext.pres eB) sl55, RdS.al hmX (Ext.pres eB) sl56, RdS.al hr5 (Ext.pres eB) sl59, BoxAt.cell hb0_0, wrap_id]
  try simp -implicitDefEqProofs (disch := first | decide | assumption | omega) only [go_sem, R1.al hdX (Ext.pres eB) sl55, RdS.al hmX (Ext.pres eB) sl56, RdS.al hr5 (Ext.pres eB) sl59, BoxAt.cell hb0_0, wrap_id]
  refine CallA.mono (iKernel_ok _ X.p ((X.maps).getD ((n - (1 : Int))).toNat default) _ (RdS.pres hr5 (Ext.pres eB)) hP hkerT (by omega) (by omega)) ?_
  intro vw3_8_0 h3_8
  rintro ⟨zvw3_8_0, fw3_8_0, rfl, how3_8_0, hfw3_8_0, e3_8⟩
  replace hb0_0 := BoxAt.ext hb0_0 e3_8
  have := Ext.size e3_8
  replace eB := Ext.trans eB e3_8
  have hlhow3_8_0 := OS.lt how3_8_0
  try simp (disch := decide) only [outv_some, outv_none, put_puts]
  refine plK_pres (Ext.pres e3_8) ?_
  try simp -implicitDefEqProofs (disch := first | decide | assumption | omega) only [go_sem, R1.al hdX (Ext.pres eB) sl55, RdS.al hmX (Ext.pres eB) sl56, RdS.al hr5 (Ext.pres eB) sl59, RdS.an (OS.rd how3_8_0) sl59, BoxAt.cell hb0_0, wrap_id]
  refine hK _ _ ?_
  clear hK K
  refine den_ret ?_
  simp (disch := decide) only [resP_1, puts_same, puts_ne]
  have hz := cycP_in (X := X) (n := n) (by omega) (by omega)
  rw [hz]
  exact ⟨_, _, rfl, how3_8_0, hfw3_8_0.mono (by omega), eB⟩

set_option maxRecDepth 100000 in
theorem iBnd_ok (vX : Value) (X : Cx) (n : Int) (h : Heap) (rX : RC h vX X) (hC : IsC X) (hn : 0 ≤ n ∧ n ≤ 1000) : CallA Try.prog 123 #[vX, .int .i64 n] h fun v' h' => ∃ w0 f0, v' = w0 ∧ O2 h' w0 (bndP X n) f0 ∧ Fresh h.size f0 ∧ Ext h h' := by
 obtain ⟨vdX, vmX, rfl, hdX, hmX⟩ := rX
 have hledX := RdS.le hdX
 have hlemX := RdS.le hmX
 have hml := hC.ml
 have hlX := hC.len
 have hpb := isP_bnd hC.p
 refine callA_intro TTok (args := [_, _]) Try.func123 (by kernel_rfl) rfl 21 rfl (by simp) [.tmp 4] rfl ?_
 simp only [idxs, Nat.reduceAdd]
 refine den_seq ?_
 refine den_region TTok ?_
 intro K hK
 simp -implicitDefEqProofs (disch := first | decide | assumption | omega) only [go_sem, R1.al hdX (HPres.refl _) sl55, RdS.al hmX (HPres.refl _) sl56, wrap_id]
 refine op_box (cs := #[.int .i64 (X.p), vdX, vmX]) rfl ?_
 intro h0_0 e0_0 hb0_0 z0_0
 have := Ext.size e0_0
 have eB := e0_0
 have hfhb0_0 : Fresh h.size [h.size] := Fresh.one _
 have hlhb0_0 := one_lt (show h.size < h0_0.size by omega)
 try simp -implicitDefEqProofs (disch := first | decide | assumption | omega) only [go_sem, R1.al hdX (Ext.pres eB) sl55, RdS.al hmX (Ext.pres eB) sl56, BoxAt.cell hb0_0, wrap_id]
 refine hK _ _ ?_
 clear hK K
 refine den_seq ?_
 refine den_seq ?_
 refine den_merge [(12, .bool (((decide (n < (0 : Int))) || (decide ((((X.dims).length : Int) - 1) ≤ n)))))] [1, 2] (fun H => Ext h0_0 H) ?_ ?_
  -- a way
 ·refine den_region TTok ?_
  intro K hK
  simp -implicitDefEqProofs (disch := first | decide | assumption | (simp (disch := decide) only [gvA, eq_self, if_true, if_false, Bool.false_eq_true]; done) | omega) only [go_sem, R1.al hdX (Ext.pres eB) sl55, RdS.al hmX (Ext.pres eB) sl56, BoxAt.cell hb0_0, wrap_id]
  refine opsP_F (by simp (disch := decide) only [gvA, eq_self, if_true, if_false, Bool.false_eq_true]; rfl) (fun g1 => ?_) (fun g1 => ?_)
  ·try simp -implicitDefEqProofs (disch := first | decide | assumption | (simp (disch := decide) only [gvA, eq_self, if_true, if_false, Bool.false_eq_true, g1]; done) | omega) only [go_sem, ld58, R1.al hdX (Ext.pres eB) sl55, RdS.al hmX (Ext.pres eB) sl56, BoxAt.cell hb0_0, wrap_id, g1, eq_self, if_true, if_false, Bool.false_eq_true]
   try simp -implicitDefEqProofs (disch := first | decide | assumption | omega) only [go_sem, R1.al hdX (Ext.pres eB) sl55, RdS.al hmX (Ext.pres eB) sl56, BoxAt.cell hb0_0, wrap_id]
   refine CallA.mono (top_ok _ X _ ⟨_, _, rfl, (RdS.pres hdX (Ext.pres eB)), (RdS.pres hmX (Ext.pres eB))⟩) ?_
   intro v_ h1_5
   rintro ⟨rfl, e1_5⟩
   replace hb0_0 := BoxAt.ext hb0_0 e1_5
   have := Ext.size e1_5
   replace eB := Ext.trans eB e1_5
   try simp -implicitDefEqProofs (disch := first | decide | assumption | (simp (disch := decide) only [gvA, eq_self, if_true, if_false, Bool.false_eq_true, g1]; done) | omega) only [go_sem, R1.al hdX (Ext.pres eB) sl55, RdS.al hmX (Ext.pres eB) sl56, BoxAt.cell hb0_0, wrap_id, g1, eq_self, if_true, if_false, Bool.false_eq_true]
   refine hK _ _ ?_
   clear hK K
   refine den_stop ?_
   refine ⟨?_, e1_5⟩
   first | (simp (disch := decide) only [go_sem, g1, eq_self, Bool.true_and, Bool.and_true, Bool.false_and, Bool.and_false, Bool.true_or, Bool.or_true, Bool.false_or, Bool.or_false, if_true, if_false, Bool.false_eq_true]; done) | simp [HasL, sel, puts_at, g1]
  ·try simp -implicitDefEqProofs (disch := first | decide | assumption | (simp (disch := decide) only [gvA, eq_self, if_true, if_false, Bool.false_eq_true, g1]; done) | omega) only [go_sem, R1.al hdX (Ext.pres eB) sl55, RdS.al hmX (Ext.pres eB) sl56, BoxAt.cell hb0_0, wrap_id, g1, eq_self, if_true, if_false, Bool.false_eq_true]
   refine hK _ _ ?_
   clear hK K
   refine den_stop ?_
   refine ⟨?_, Ext.refl _⟩
   first | (simp (disch := decide) only [go_sem, g1, eq_self, Bool.true_and, Bool.and_true, Bool.false_and, Bool.and_false, Bool.true_or, Bool.or_true, Bool.false_or, Bool.or_false, if_true, if_false, Bool.false_eq_true]; done) | simp [HasL, sel, puts_at, g1]
 intro en2 h3 e4
 replace hb0_0 := BoxAt.ext hb0_0 e4
 have := Ext.size e4
 replace eB := Ext.trans eB e4
 simp (disch := decide) only [go_sem]
 refine den_cond rfl (fun c0 => ?_) (fun c0 => ?_)
 ·try simp only [ddA, Bool.or_eq_false_iff, Bool.or_eq_true] at c0
  refine den_seq ?_
  refine den_region TTok ?_
  intro K hK
  simp -implicitDefEqProofs (disch := first | decide | assumption | omega) only [go_sem, R1.al hdX (Ext.pres eB) sl55, RdS.al hmX (Ext.pres eB) sl56, wrap_id]
  refine hK _ _ ?_
  clear hK K
  refine den_ret ?_
  simp (disch := decide) only [resP_1, puts_same, puts_ne]
  have hz := bndP_out hC (n := n) (by omega) (by first | omega | (rcases c0 with h | h <;> omega))
  rw [hz]
  exact ⟨.slice none 0 0, [], rfl, OS.nil, Fresh.nil _, eB⟩
 ·try simp only [ddA, Bool.or_eq_false_iff, Bool.or_eq_true] at c0
  refine den_skip ?_
  refine den_seq ?_
  have hmt := mapP_tbl hC (n + 1)
  rw [mapP_in (by omega) (by omega), Int.add_sub_cancel] at hmt
  have hP := hC.p
  have hredT := hmt.2
  rw [if_pos (show 1 ≤ n + 1 by omega)] at hredT
  have hkw := dimP_bnd hC n
  have hkd := dimP_bnd hC (n + 1)
  have hkl : (X.maps.getD n.toNat default).length ≤ 8 := by have := hmt.1; omega
  refine den_draw TTok mixed [] [(0, true), (1, true), (2, true), (3, true), (4, true), (5, true), (6, true), (7, false), (8, true)] (by kernel_rfl) ?_
  intro K hK
  have hr5 := RdS.rowN hmX (n).toNat (by omega)
  have hlhr5 := RdS.le hr5
  simp -implicitDefEqProofs (disch := first | decide | assumption | omega) only [go_sem, fa58_0, fa58_2, ld56, ld59, ld2, R1.al hdX (Ext.pres eB) sl55, RdS.al hmX (Ext.pres eB) sl56, RdS.al hr5 (Ext.pres eB) sl59, BoxAt.cell hb0_0, wrap_id]
  try simp -implicitDefEqProofs (disch := first | decide | assumption | omega) only [go_sem, R1.al hdX (Ext.pres eB) sl55, RdS.al hmX (Ext.pres eB) sl56, RdS.al hr5 (Ext.pres eB) sl59, BoxAt.cell hb0_0, wrap_id]
  refine CallA.mono (iReduce_ok _ X.p ((X.maps).getD (n).toNat default) _ (RdS.pres hr5 (Ext.pres eB)) hP hredT (by omega) (by omega)) ?_
  intro vw3_7_0 h3_7
  rintro ⟨zvw3_7_0, fw3_7_0, rfl, how3_7_0, hfw3_7_0, e3_7⟩
  replace hb0_0 := BoxAt.ext hb0_0 e3_7
  have := Ext.size e3_7
  replace eB := Ext.trans eB e3_7
  have hlhow3_7_0 := OS.lt how3_7_0
  try simp (disch := decide) only [outv_some, outv_none, put_puts]
  refine plK_pres (Ext.pres e3_7) ?_
  try simp -implicitDefEqProofs (disch := first | decide | assumption | omega) only [go_sem, R1.al hdX (Ext.pres eB) sl55, RdS.al hmX (Ext.pres eB) sl56, RdS.al hr5 (Ext.pres eB) sl59, RdS.an (OS.rd how3_7_0) sl59, BoxAt.cell hb0_0, wrap_id]
  refine hK _ _ ?_
  clear hK K
  refine den_ret ?_
  simp (disch := decide) only [resP_1, puts_same, puts_ne]
  have hz := bndP_in (X := X) (n := n) (by omega) (by omega)
  rw [hz]
  exact ⟨_, _, rfl, how3_7_0, hfw3_7_0.mono (by omega), eB⟩

set_option maxRecDepth 100000 in
theorem sCyc_ok (vX : Value) (X : Cx) (n : Int) (h : Heap) (rX : RC h vX X) (hC : IsC X) (hn : -1000 ≤ n ∧ n ≤ 1000) : CallA Try.prog 102 #[vX, .int .i64 n] h fun v' h' => ∃ w0 f0, v' = w0 ∧ O2 h' w0 (cycP X n) f0 ∧ Fresh h.size f0 ∧ Ext h h' := by
 obtain ⟨vdX, vmX, rfl, hdX, hmX⟩ := rX
 have hledX := RdS.le hdX
 have hlemX := RdS.le hmX
 have hP := hC.p
 have hmt := mapP_tbl hC n
 have hkerT := hmt.2
 have hkern := hmt.1.symm
 have hkl := mapP_len hC n
 have hkw : (if 1 ≤ n then (dimP X (n - 1)).toNat else 0) ≤ 8 := mapW_le hC n
 refine callA_intro TTok (args := [_, _]) Try.func102 (by kernel_rfl) rfl 14 rfl (by simp) [.tmp 4] rfl ?_
 simp only [idxs, Nat.reduceAdd]
 refine den_seq ?_
 refine den_region TTok ?_
 intro K hK
 simp -implicitDefEqProofs (disch := first | decide | assumption | omega) only [go_sem, R1.al hdX (HPres.refl _) sl55, RdS.al hmX (HPres.refl _) sl56, wrap_id]
 refine op_box (cs := #[.int .i64 (X.p), vdX, vmX]) rfl ?_
 intro h0_0 e0_0 hb0_0 z0_0
 have := Ext.size e0_0
 have eB := e0_0
 have hfhb0_0 : Fresh h.size [h.size] := Fresh.one _
 have hlhb0_0 := one_lt (show h.size < h0_0.size by omega)
 try simp -implicitDefEqProofs (disch := first | decide | assumption | omega) only [go_sem, R1.al hdX (Ext.pres eB) sl55, RdS.al hmX (Ext.pres eB) sl56, BoxAt.cell hb0_0, wrap_id]
 refine hK _ _ ?_
 clear hK K
 refine den_seq ?_
 refine den_draw TTok mixed [] [(0, true), (1, true), (2, true), (3, true), (5, true), (6, true), (4, false), (7, false), (8, false), (9, true)] (by kernel_rfl) ?_
 intro K hK
 simp -implicitDefEqProofs (disch := first | decide | assumption | omega) only [go_sem, fa58_0, ld2, ld58, R1.al hdX (Ext.pres eB) sl55, RdS.al hmX (Ext.pres eB) sl56, BoxAt.cell hb0_0, wrap_id]
 try simp -implicitDefEqProofs (disch := first | decide | assumption | omega) only [go_sem, R1.al hdX (Ext.pres eB) sl55, RdS.al hmX (Ext.pres eB) sl56, BoxAt.cell hb0_0, wrap_id]
 refine CallA.mono (sDim_ok _ X _ _ ⟨_, _, rfl, (RdS.pres hdX (Ext.pres eB)), (RdS.pres hmX (Ext.pres eB))⟩) ?_
 intro v_ h1_4
 rintro ⟨rfl, e1_4⟩
 replace hb0_0 := BoxAt.ext hb0_0 e1_4
 have := Ext.size e1_4
 replace eB := Ext.trans eB e1_4
 try simp (disch := decide) only [outv_some, outv_none, put_puts]
 refine plK_pres (Ext.pres e1_4) ?_
 try simp -implicitDefEqProofs (disch := first | decide | assumption | omega) only [go_sem, R1.al hdX (Ext.pres eB) sl55, RdS.al hmX (Ext.pres eB) sl56, BoxAt.cell hb0_0, wrap_id]
 try simp -implicitDefEqProofs (disch := first | decide | assumption | omega) only [go_sem, R1.al hdX (Ext.pres eB) sl55, RdS.al hmX (Ext.pres eB) sl56, BoxAt.cell hb0_0, wrap_id]
 refine CallA.mono (sMap_ok _ X n _ ⟨_, _, rfl, (RdS.pres hdX (Ext.pres eB)), (RdS.pres hmX (Ext.pres eB))⟩ hC) ?_
 intro vw1_7_0 h1_7
 rintro ⟨zvw1_7_0, rfl, hrw1_7_0, e1_7⟩
 replace hb0_0 := BoxAt.ext hb0_0 e1_7
 have := Ext.size e1_7
 replace eB := Ext.trans eB e1_7
 have xrw1_7_0 := Ext.refl h1_7
 have hlrw1_7_0 := RdS.le hrw1_7_0
 try simp (disch := decide) only [outv_some, outv_none, put_puts]
 refine plK_pres (Ext.pres e1_7) ?_
 try simp -implicitDefEqProofs (disch := first | decide | assumption | omega) only [go_sem, R1.al hdX (Ext.pres eB) sl55, RdS.al hmX (Ext.pres eB) sl56, BoxAt.cell hb0_0, RdS.al hrw1_7_0 (Ext.pres xrw1_7_0) sl59, wrap_id]
 try simp -implicitDefEqProofs (disch := first | decide | assumption | omega) only [go_sem, R1.al hdX (Ext.pres eB) sl55, RdS.al hmX (Ext.pres eB) sl56, BoxAt.cell hb0_0, RdS.al hrw1_7_0 (Ext.pres xrw1_7_0) sl59, wrap_id]
 refine CallA.mono (sKernel_ok _ X.p (dimP X n) (mapP X n) _ (RdS.pres hrw1_7_0 (Ext.pres xrw1_7_0)) hP hkerT (by omega) (by omega) hkern) ?_
 intro vw1_8_0 h1_8
 rintro ⟨zvw1_8_0, fw1_8_0, rfl, how1_8_0, hfw1_8_0, e1_8⟩
 replace hb0_0 := BoxAt.ext hb0_0 e1_8
 have := Ext.size e1_8
 replace eB := Ext.trans eB e1_8
 replace xrw1_7_0 := Ext.trans xrw1_7_0 e1_8
 have hlhow1_8_0 := OS.lt how1_8_0
 try simp (disch := decide) only [outv_some, outv_none, put_puts]
 refine plK_pres (Ext.pres e1_8) ?_
 try simp -implicitDefEqProofs (disch := first | decide | assumption | omega) only [go_sem, R1.al hdX (Ext.pres eB) sl55, RdS.al hmX (Ext.pres eB) sl56, RdS.an (OS.rd how1_8_0) sl59, BoxAt.cell hb0_0, RdS.al hrw1_7_0 (Ext.pres xrw1_7_0) sl59, wrap_id]
 refine hK _ _ ?_
 clear hK K
 refine den_ret ?_
 simp (disch := decide) only [resP_1, puts_same, puts_ne]
 exact ⟨_, _, rfl, how1_8_0, hfw1_8_0.mono (by omega), eB⟩

set_option maxRecDepth 100000 in
theorem sBnd_ok (vX : Value) (X : Cx) (n : Int) (h : Heap) (rX : RC h vX X) (hC : IsC X) (hn : 0 ≤ n ∧ n ≤ 1000) : CallA Try.prog 103 #[vX, .int .i64 n] h fun v' h' => ∃ w0 f0, v' = w0 ∧ O2 h' w0 (bndP X n) f0 ∧ Fresh h.size f0 ∧ Ext h h' := by
 obtain ⟨vdX, vmX, rfl, hdX, hmX⟩ := rX
 have hledX := RdS.le hdX
 have hlemX := RdS.le hmX
 have hP := hC.p
 have hmt := mapP_tbl hC (n + 1)
 have hredT := hmt.2
 have hkl := mapP_len hC (n + 1)
 have hkw : (if 1 ≤ n + 1 then (dimP X (n + 1 - 1)).toNat else 0) ≤ 8 := mapW_le hC (n + 1)
 refine callA_intro TTok (args := [_, _]) Try.func103 (by kernel_rfl) rfl 12 rfl (by simp) [.tmp 4] rfl ?_
 simp only [idxs, Nat.reduceAdd]
 refine den_seq ?_
 refine den_region TTok ?_
 intro K hK
 simp -implicitDefEqProofs (disch := first | decide | assumption | omega) only [go_sem, R1.al hdX (HPres.refl _) sl55, RdS.al hmX (HPres.refl _) sl56, wrap_id]
 refine op_box (cs := #[.int .i64 (X.p), vdX, vmX]) rfl ?_
 intro h0_0 e0_0 hb0_0 z0_0
 have := Ext.size e0_0
 have eB := e0_0
 have hfhb0_0 : Fresh h.size [h.size] := Fresh.one _
 have hlhb0_0 := one_lt (show h.size < h0_0.size by omega)
 try simp -implicitDefEqProofs (disch := first | decide | assumption | omega) only [go_sem, R1.al hdX (Ext.pres eB) sl55, RdS.al hmX (Ext.pres eB) sl56, BoxAt.cell hb0_0, wrap_id]
 refine hK _ _ ?_
 clear hK K
 refine den_seq ?_
 refine den_draw TTok mixed [] [(0, true), (1, true), (2, true), (3, true), (4, true), (5, false), (6, false), (7, true)] (by kernel_rfl) ?_
 intro K hK
 simp -implicitDefEqProofs (disch := first | decide | assumption | omega) only [go_sem, fa58_0, ld2, ld58, R1.al hdX (Ext.pres eB) sl55, RdS.al hmX (Ext.pres eB) sl56, BoxAt.cell hb0_0, wrap_id]
 try simp -implicitDefEqProofs (disch := first | decide | assumption | omega) only [go_sem, R1.al hdX (Ext.pres eB) sl55, RdS.al hmX (Ext.pres eB) sl56, BoxAt.cell hb0_0, wrap_id]
 refine CallA.mono (sMap_ok _ X (n + (1 : Int)) _ ⟨_, _, rfl, (RdS.pres hdX (Ext.pres eB)), (RdS.pres hmX (Ext.pres eB))⟩ hC) ?_
 intro vw1_5_0 h1_5
 rintro ⟨zvw1_5_0, rfl, hrw1_5_0, e1_5⟩
 replace hb0_0 := BoxAt.ext hb0_0 e1_5
 have := Ext.size e1_5
 replace eB := Ext.trans eB e1_5
 have xrw1_5_0 := Ext.refl h1_5
 have hlrw1_5_0 := RdS.le hrw1_5_0
 try simp (disch := decide) only [outv_some, outv_none, put_puts]
 refine plK_pres (Ext.pres e1_5) ?_
 try simp -implicitDefEqProofs (disch := first | decide | assumption | omega) only [go_sem, R1.al hdX (Ext.pres eB) sl55, RdS.al hmX (Ext.pres eB) sl56, BoxAt.cell hb0_0, RdS.al hrw1_5_0 (Ext.pres xrw1_5_0) sl59, wrap_id]
 try simp -implicitDefEqProofs (disch := first | decide | assumption | omega) only [go_sem, R1.al hdX (Ext.pres eB) sl55, RdS.al hmX (Ext.pres eB) sl56, BoxAt.cell hb0_0, RdS.al hrw1_5_0 (Ext.pres xrw1_5_0) sl59, wrap_id]
 refine CallA.mono (sEch_ok _ X.p (mapP X (n + (1 : Int))) _ (RdS.pres hrw1_5_0 (Ext.pres xrw1_5_0)) hP hredT (by omega) (by omega)) ?_
 intro vw1_6_0 h1_6
 rintro ⟨zvw1_6_0, fw1_6_0, rfl, how1_6_0, hfw1_6_0, e1_6⟩
 replace hb0_0 := BoxAt.ext hb0_0 e1_6
 have := Ext.size e1_6
 replace eB := Ext.trans eB e1_6
 replace xrw1_5_0 := Ext.trans xrw1_5_0 e1_6
 have hlhow1_6_0 := OS.lt how1_6_0
 try simp (disch := decide) only [outv_some, outv_none, put_puts]
 refine plK_pres (Ext.pres e1_6) ?_
 try simp -implicitDefEqProofs (disch := first | decide | assumption | omega) only [go_sem, R1.al hdX (Ext.pres eB) sl55, RdS.al hmX (Ext.pres eB) sl56, RdS.an (OS.rd how1_6_0) sl59, BoxAt.cell hb0_0, RdS.al hrw1_5_0 (Ext.pres xrw1_5_0) sl59, wrap_id]
 refine hK _ _ ?_
 clear hK K
 refine den_ret ?_
 simp (disch := decide) only [resP_1, puts_same, puts_ne]
 exact ⟨_, _, rfl, how1_6_0, hfw1_6_0.mono (by omega), eB⟩
end Go.Proofs.Ytacajcjibhifmaa

namespace Go.Proofs.Ytacajcjibhifmaa
open Go
theorem map_takeL {α β : Type} {f : α → β} {xs : List α} {k : Nat} {d : α} (h : k < xs.length) : (xs.take k).map f ++ [f (xs.getD k d)] = (xs.take (k + 1)).map f := by
 rw [List.take_succ_eq_append_getElem h, List.map_append, List.getD_eq_getElem?_getD, List.getElem?_eq_getElem h]; rfl
theorem map_takeE {α β : Type} {f : α → β} {xs : List α} {k : Nat} (h : ¬ k < xs.length) : (xs.take k).map f = xs.map f := by rw [List.take_of_length_le (by omega)]
end Go.Proofs.Ytacajcjibhifmaa

namespace Go.Proofs.Ytacajcjibhifmaa
open Go
noncomputable def homP (X : Cx) (n : Int) : Int := ((cycP X n).length : Int) - ((bndP X n).length : Int)
theorem cyc_len {X : Cx} (hC : IsC X) (n : Int) : (cycP X n).length ≤ 8 := by
 obtain ⟨l, r⟩ := cyc_rr hC n
 have := r.le_w
 have := dimP_bnd hC n
 omega
theorem bnd_len {X : Cx} (hC : IsC X) {n : Int} (h : 0 ≤ n) : (bndP X n).length ≤ 8 := by
 obtain ⟨l, r⟩ := bnd_rr hC h
 have := r.le_w
 have := dimP_bnd hC n
 omega
set_option maxRecDepth 100000 in
theorem iHom_ok (vX : Value) (X : Cx) (n : Int) (h : Heap) (rX : RC h vX X) (hC : IsC X) (hn : 0 ≤ n ∧ n ≤ 1000) : CallA Try.prog 105 #[vX, .int .i64 n] h fun v' h' => v' = .int .i64 (homP X n) ∧ Ext h h' := by
 obtain ⟨vdX, vmX, rfl, hdX, hmX⟩ := rX
 have hledX := RdS.le hdX
 have hlemX := RdS.le hmX
 have hCx := hC
 have hcl_ := cyc_len hC n
 have hbl_ := bnd_len hC hn.1
 refine callA_intro TTok (args := [_, _]) Try.func105 (by kernel_rfl) rfl 14 rfl (by simp) [.tmp 4] rfl ?_
 simp only [idxs, Nat.reduceAdd]
 refine den_seq ?_
 refine den_region TTok ?_
 intro K hK
 simp -implicitDefEqProofs (disch := first | decide | assumption | omega) only [go_sem, R1.al hdX (HPres.refl _) sl55, RdS.al hmX (HPres.refl _) sl56, wrap_id]
 refine op_box (cs := #[.int .i64 (X.p), vdX, vmX]) rfl ?_
 intro h0_0 e0_0 hb0_0 z0_0
 have := Ext.size e0_0
 have eB := e0_0
 have hfhb0_0 : Fresh h.size [h.size] := Fresh.one _
 have hlhb0_0 := one_lt (show h.size < h0_0.size by omega)
 try simp -implicitDefEqProofs (disch := first | decide | assumption | omega) only [go_sem, R1.al hdX (Ext.pres eB) sl55, RdS.al hmX (Ext.pres eB) sl56, BoxAt.cell hb0_0, wrap_id]
 refine hK _ _ ?_
 clear hK K
 refine den_seq ?_
 refine den_draw TTok mixed [] [(0, true), (1, true), (4, true), (5, true), (2, false), (3, false), (6, false), (7, false), (8, true), (9, true)] (by kernel_rfl) ?_
 intro K hK
 simp -implicitDefEqProofs (disch := first | decide | assumption | omega) only [go_sem, ld58, R1.al hdX (Ext.pres eB) sl55, RdS.al hmX (Ext.pres eB) sl56, BoxAt.cell hb0_0, wrap_id]
 try simp -implicitDefEqProofs (disch := first | decide | assumption | omega) only [go_sem, R1.al hdX (Ext.pres eB) sl55, RdS.al hmX (Ext.pres eB) sl56, BoxAt.cell hb0_0, wrap_id]
 refine CallA.mono (iCyc_ok _ X n _ ⟨_, _, rfl, (RdS.pres hdX (Ext.pres eB)), (RdS.pres hmX (Ext.pres eB))⟩ hCx (by omega)) ?_
 intro vw1_2_0 h1_2
 rintro ⟨zvw1_2_0, fw1_2_0, rfl, how1_2_0, hfw1_2_0, e1_2⟩
 replace hb0_0 := BoxAt.ext hb0_0 e1_2
 have := Ext.size e1_2
 replace eB := Ext.trans eB e1_2
 have hlhow1_2_0 := OS.lt how1_2_0
 try simp (disch := decide) only [outv_some, outv_none, put_puts]
 refine plK_pres (Ext.pres e1_2) ?_
 try simp -implicitDefEqProofs (disch := first | decide | assumption | omega) only [go_sem, R1.al hdX (Ext.pres eB) sl55, RdS.al hmX (Ext.pres eB) sl56, RdS.an (OS.rd how1_2_0) sl59, BoxAt.cell hb0_0, wrap_id]
 try simp -implicitDefEqProofs (disch := first | decide | assumption | omega) only [go_sem, R1.al hdX (Ext.pres eB) sl55, RdS.al hmX (Ext.pres eB) sl56, RdS.an (OS.rd how1_2_0) sl59, BoxAt.cell hb0_0, wrap_id]
 refine CallA.pure (size2_ok _ _ _ (OS.rd how1_2_0)) ?_
 try simp -implicitDefEqProofs (disch := first | decide | assumption | omega) only [go_sem, R1.al hdX (Ext.pres eB) sl55, RdS.al hmX (Ext.pres eB) sl56, RdS.an (OS.rd how1_2_0) sl59, BoxAt.cell hb0_0, wrap_id]
 try simp -implicitDefEqProofs (disch := first | decide | assumption | omega) only [go_sem, R1.al hdX (Ext.pres eB) sl55, RdS.al hmX (Ext.pres eB) sl56, RdS.an (OS.rd how1_2_0) sl59, BoxAt.cell hb0_0, wrap_id]
 refine CallA.mono (iBnd_ok _ X n _ ⟨_, _, rfl, (RdS.pres hdX (Ext.pres eB)), (RdS.pres hmX (Ext.pres eB))⟩ hCx (by omega)) ?_
 intro vw1_6_0 h1_6
 rintro ⟨zvw1_6_0, fw1_6_0, rfl, how1_6_0, hfw1_6_0, e1_6⟩
 replace how1_2_0 := OS.ext how1_2_0 e1_6
 replace hb0_0 := BoxAt.ext hb0_0 e1_6
 have := Ext.size e1_6
 replace eB := Ext.trans eB e1_6
 have hlhow1_6_0 := OS.lt how1_6_0
 try simp (disch := decide) only [outv_some, outv_none, put_puts]
 refine plK_pres (Ext.pres e1_6) ?_
 try simp -implicitDefEqProofs (disch := first | decide | assumption | omega) only [go_sem, R1.al hdX (Ext.pres eB) sl55, RdS.al hmX (Ext.pres eB) sl56, RdS.an (OS.rd how1_2_0) sl59, RdS.an (OS.rd how1_6_0) sl59, BoxAt.cell hb0_0, wrap_id]
 try simp -implicitDefEqProofs (disch := first | decide | assumption | omega) only [go_sem, R1.al hdX (Ext.pres eB) sl55, RdS.al hmX (Ext.pres eB) sl56, RdS.an (OS.rd how1_2_0) sl59, RdS.an (OS.rd how1_6_0) sl59, BoxAt.cell hb0_0, wrap_id]
 refine CallA.pure (size2_ok _ _ _ (OS.rd how1_6_0)) ?_
 try simp -implicitDefEqProofs (disch := first | decide | assumption | omega) only [go_sem, R1.al hdX (Ext.pres eB) sl55, RdS.al hmX (Ext.pres eB) sl56, RdS.an (OS.rd how1_2_0) sl59, RdS.an (OS.rd how1_6_0) sl59, BoxAt.cell hb0_0, wrap_id]
 refine hK _ _ ?_
 clear hK K
 refine den_ret ?_
 simp (disch := decide) only [resP_1, puts_same, puts_ne]
 exact ⟨by first | rfl | trivial, eB⟩

set_option maxRecDepth 100000 in
theorem sHom_ok (vX : Value) (X : Cx) (n : Int) (h : Heap) (rX : RC h vX X) (hC : IsC X) (hn : 0 ≤ n ∧ n ≤ 1000) : CallA Try.prog 82 #[vX, .int .i64 n] h fun v' h' => v' = .int .i64 (homP X n) ∧ Ext h h' := by
 obtain ⟨vdX, vmX, rfl, hdX, hmX⟩ := rX
 have hledX := RdS.le hdX
 have hlemX := RdS.le hmX
 have hCx := hC
 have hcl_ := cyc_len hC n
 have hbl_ := bnd_len hC hn.1
 refine callA_intro TTok (args := [_, _]) Try.func82 (by kernel_rfl) rfl 14 rfl (by simp) [.tmp 4] rfl ?_
 simp only [idxs, Nat.reduceAdd]
 refine den_seq ?_
 refine den_region TTok ?_
 intro K hK
 simp -implicitDefEqProofs (disch := first | decide | assumption | omega) only [go_sem, R1.al hdX (HPres.refl _) sl55, RdS.al hmX (HPres.refl _) sl56, wrap_id]
 refine op_box (cs := #[.int .i64 (X.p), vdX, vmX]) rfl ?_
 intro h0_0 e0_0 hb0_0 z0_0
 have := Ext.size e0_0
 have eB := e0_0
 have hfhb0_0 : Fresh h.size [h.size] := Fresh.one _
 have hlhb0_0 := one_lt (show h.size < h0_0.size by omega)
 try simp -implicitDefEqProofs (disch := first | decide | assumption | omega) only [go_sem, R1.al hdX (Ext.pres eB) sl55, RdS.al hmX (Ext.pres eB) sl56, BoxAt.cell hb0_0, wrap_id]
 refine hK _ _ ?_
 clear hK K
 refine den_seq ?_
 refine den_draw TTok mixed [] [(0, true), (1, true), (4, true), (5, true), (2, false), (3, true), (6, false), (7, true), (8, true), (9, true)] (by kernel_rfl) ?_
 intro K hK
 simp -implicitDefEqProofs (disch := first | decide | assumption | omega) only [go_sem, ld58, R1.al hdX (Ext.pres eB) sl55, RdS.al hmX (Ext.pres eB) sl56, BoxAt.cell hb0_0, wrap_id]
 try simp -implicitDefEqProofs (disch := first | decide | assumption | omega) only [go_sem, R1.al hdX (Ext.pres eB) sl55, RdS.al hmX (Ext.pres eB) sl56, BoxAt.cell hb0_0, wrap_id]
 refine CallA.mono (sCyc_ok _ X n _ ⟨_, _, rfl, (RdS.pres hdX (Ext.pres eB)), (RdS.pres hmX (Ext.pres eB))⟩ hCx (by omega)) ?_
 intro vw1_2_0 h1_2
 rintro ⟨zvw1_2_0, fw1_2_0, rfl, how1_2_0, hfw1_2_0, e1_2⟩
 replace hb0_0 := BoxAt.ext hb0_0 e1_2
 have := Ext.size e1_2
 replace eB := Ext.trans eB e1_2
 have hlhow1_2_0 := OS.lt how1_2_0
 try simp (disch := decide) only [outv_some, outv_none, put_puts]
 refine plK_pres (Ext.pres e1_2) ?_
 try simp -implicitDefEqProofs (disch := first | decide | assumption | omega) only [go_sem, R1.al hdX (Ext.pres eB) sl55, RdS.al hmX (Ext.pres eB) sl56, RdS.an (OS.rd how1_2_0) sl59, BoxAt.cell hb0_0, wrap_id]
 try simp -implicitDefEqProofs (disch := first | decide | assumption | omega) only [go_sem, R1.al hdX (Ext.pres eB) sl55, RdS.al hmX (Ext.pres eB) sl56, RdS.an (OS.rd how1_2_0) sl59, BoxAt.cell hb0_0, wrap_id]
 refine CallA.mono (sBnd_ok _ X n _ ⟨_, _, rfl, (RdS.pres hdX (Ext.pres eB)), (RdS.pres hmX (Ext.pres eB))⟩ hCx (by omega)) ?_
 intro vw1_6_0 h1_6
 rintro ⟨zvw1_6_0, fw1_6_0, rfl, how1_6_0, hfw1_6_0, e1_6⟩
 replace how1_2_0 := OS.ext how1_2_0 e1_6
 replace hb0_0 := BoxAt.ext hb0_0 e1_6
 have := Ext.size e1_6
 replace eB := Ext.trans eB e1_6
 have hlhow1_6_0 := OS.lt how1_6_0
 try simp (disch := decide) only [outv_some, outv_none, put_puts]
 refine plK_pres (Ext.pres e1_6) ?_
 try simp -implicitDefEqProofs (disch := first | decide | assumption | omega) only [go_sem, R1.al hdX (Ext.pres eB) sl55, RdS.al hmX (Ext.pres eB) sl56, RdS.an (OS.rd how1_2_0) sl59, RdS.an (OS.rd how1_6_0) sl59, BoxAt.cell hb0_0, wrap_id]
 refine hK _ _ ?_
 clear hK K
 refine den_ret ?_
 simp (disch := decide) only [resP_1, puts_same, puts_ne]
 exact ⟨by first | rfl | trivial, eB⟩

noncomputable def homL (X : Cx) (n : Nat) : List Int := (List.range n).map fun q : Nat => homP X (q : Int)
noncomputable def homR (X : Cx) : List Int × Int := if isC X = true then (homL X X.dims.length, 0) else ([], 1)
theorem homL_len (X : Cx) (n : Nat) : (homL X n).length = n := by simp [homL]
theorem homL_step (X : Cx) (n : Nat) : homL X n ++ [homP X (n : Int)] = homL X (n + 1) := range_step (fun q : Nat => homP X (q : Int)) n
theorem cnt_hom (X : Cx) : 0 ≤ cnt1 (homR X).1 ∧ cnt1 (homR X).1 ≤ 6 := by
 unfold homR
 split
 ·rename_i hc
  have := (isC_t.1 hc).len
  refine ⟨cnt1_nn _, ?_⟩
  show cnt1 (homL X X.dims.length) ≤ 6
  rw [cnt1, homL_len]; omega
 ·exact ⟨cnt1_nn _, by show cnt1 [] ≤ 6; decide⟩

set_option maxRecDepth 100000 in
theorem iHN_ok (vX : Value) (X : Cx) (h : Heap) (rX : RC h vX X)  : CallA Try.prog 83 #[vX] h fun v' h' => ∃ w0 f0, v' = .tuple #[w0, .int .i64 ((homR X).2)] ∧ O1 h' w0 ((homR X).1) f0 ∧ Fresh h.size f0 ∧ Ext h h' := by
 obtain ⟨vdX, vmX, rfl, hdX, hmX⟩ := rX
 have hledX := RdS.le hdX
 have hlemX := RdS.le hmX
 refine callA_intro TTok (args := [_]) Try.func83 (by kernel_rfl) rfl 24 rfl (by simp) [.tmp 2, .tmp 3] rfl ?_
 simp only [idxs, Nat.reduceAdd]
 refine den_seq ?_
 refine den_region TTok ?_
 intro K hK
 simp -implicitDefEqProofs (disch := first | decide | assumption | omega) only [go_sem, R1.al hdX (HPres.refl _) sl55, RdS.al hmX (HPres.refl _) sl56, wrap_id]
 refine op_box (cs := #[.int .i64 (X.p), vdX, vmX]) rfl ?_
 intro h0_0 e0_0 hb0_0 z0_0
 have := Ext.size e0_0
 have eB := e0_0
 have hfhb0_0 : Fresh h.size [h.size] := Fresh.one _
 have hlhb0_0 := one_lt (show h.size < h0_0.size by omega)
 try simp -implicitDefEqProofs (disch := first | decide | assumption | omega) only [go_sem, R1.al hdX (Ext.pres eB) sl55, RdS.al hmX (Ext.pres eB) sl56, BoxAt.cell hb0_0, wrap_id]
 refine hK _ _ ?_
 clear hK K
 refine den_seq ?_
 refine den_seq ?_
 refine den_region TTok ?_
 intro K hK
 simp -implicitDefEqProofs (disch := first | decide | assumption | omega) only [go_sem, ld58, R1.al hdX (Ext.pres eB) sl55, RdS.al hmX (Ext.pres eB) sl56, BoxAt.cell hb0_0, wrap_id]
 try simp -implicitDefEqProofs (disch := first | decide | assumption | omega) only [go_sem, R1.al hdX (Ext.pres eB) sl55, RdS.al hmX (Ext.pres eB) sl56, BoxAt.cell hb0_0, wrap_id]
 refine CallA.mono (iIs_ok _ X _ ⟨_, _, rfl, (RdS.pres hdX (Ext.pres eB)), (RdS.pres hmX (Ext.pres eB))⟩) ?_
 intro v_ h1_1
 rintro ⟨rfl, e1_1⟩
 replace hb0_0 := BoxAt.ext hb0_0 e1_1
 have := Ext.size e1_1
 replace eB := Ext.trans eB e1_1
 try simp -implicitDefEqProofs (disch := first | decide | assumption | omega) only [go_sem, R1.al hdX (Ext.pres eB) sl55, RdS.al hmX (Ext.pres eB) sl56, BoxAt.cell hb0_0, wrap_id]
 refine hK _ _ ?_
 clear hK K
 refine den_cond rfl (fun c0 => ?_) (fun c0 => ?_)
 ·try simp only [ddA, Bool.not_eq_true] at c0
  refine den_seq ?_
  refine den_region TTok ?_
  intro K hK
  simp -implicitDefEqProofs (disch := first | decide | assumption | omega) only [go_sem, R1.al hdX (Ext.pres eB) sl55, RdS.al hmX (Ext.pres eB) sl56, wrap_id]
  refine hK _ _ ?_
  clear hK K
  refine den_ret ?_
  simp (disch := decide) only [resP_2, puts_same, puts_ne]
  have hz : homR X = ([], 1) := by rw [homR, if_neg (by rw [c0]; decide)]
  rw [hz]
  exact ⟨.slice none 0 0, [], rfl, OS.nil, Fresh.nil _, eB⟩
 ·try simp only [ddA, Bool.not_eq_true] at c0
  have hCx := isC_t.1 c0
  have hlX := hCx.len
  refine den_skip ?_
  refine den_seq ?_
  refine den_region TTok ?_
  intro K hK
  simp -implicitDefEqProofs (disch := first | decide | assumption | omega) only [go_sem, R1.al hdX (Ext.pres eB) sl55, RdS.al hmX (Ext.pres eB) sl56, BoxAt.cell hb0_0, wrap_id]
  refine op_bs0 sz55 OI ?_
  intro v3_0 h3_0 ho3_0 e3_0
  replace hb0_0 := BoxAt.ext hb0_0 e3_0
  have := Ext.size e3_0
  replace eB := Ext.trans eB e3_0
  have hfho3_0 : Fresh h1_1.size [h1_1.size] := Fresh.one _
  have hlho3_0 := OS.lt ho3_0
  try simp -implicitDefEqProofs (disch := first | decide | assumption | omega) only [go_sem, R1.al hdX (Ext.pres eB) sl55, RdS.al hmX (Ext.pres eB) sl56, R1.an (OS.rd ho3_0) sl55, BoxAt.cell hb0_0, wrap_id]
  refine hK _ _ ?_
  clear hK K
  refine den_seq ?_
  refine den_seq ?_
  refine den_region TTok ?_
  intro K hK
  simp -implicitDefEqProofs (disch := first | decide | assumption | omega) only [go_sem, fa58_1, ld55, R1.al hdX (Ext.pres eB) sl55, RdS.al hmX (Ext.pres eB) sl56, R1.an (OS.rd ho3_0) sl55, BoxAt.cell hb0_0, wrap_id]
  try simp -implicitDefEqProofs (disch := first | decide | assumption | omega) only [go_sem, R1.al hdX (Ext.pres eB) sl55, RdS.al hmX (Ext.pres eB) sl56, R1.an (OS.rd ho3_0) sl55, BoxAt.cell hb0_0, wrap_id]
  refine CallA.pure (size1_ok _ _ _ (RdS.pres hdX (Ext.pres eB))) ?_
  try simp -implicitDefEqProofs (disch := first | decide | assumption | omega) only [go_sem, R1.al hdX (Ext.pres eB) sl55, RdS.al hmX (Ext.pres eB) sl56, R1.an (OS.rd ho3_0) sl55, BoxAt.cell hb0_0, wrap_id]
  refine hK _ _ ?_
  clear hK K
  refine den_block ?_
  refine den_sel [4, 13, 1, 12] ?_
  intro env_1
  simp only [go_sem]
  refine den_loopS (σ := Nat × Value × List Nat) (fun st_ => [(4, st_.2.1), (13, .int .i64 (st_.1 : Int))]) (fun st_ H => (st_.1 ≤ X.dims.length) ∧ (O1 H st_.2.1 (homL X st_.1) st_.2.2) ∧ (Fresh (h1_1.size) st_.2.2) ∧ (Sub [h1_1.size] h3_0.size st_.2.2) ∧ (Chg [h1_1.size] h3_0 H)) (fun st_ => X.dims.length - st_.1) (0, v3_0, [h1_1.size]) ?_ ?_
  ·exact ⟨by first | (simp; done) | (dsimp only; omega) | (simp; omega), by exact ho3_0, hfho3_0, Sub.refl, Chg.refl _ _⟩
  ·rintro ⟨k, vhO, fphO⟩ h4 ee3 ⟨hi0, hO, hfhO, sbhO, cL2⟩
   dsimp only at hi0 hO hfhO sbhO cL2
   replace hb0_0 := BoxAt.chgA hb0_0 cL2 (apart_lt hlhb0_0 hfho3_0 (by omega))
   have := cL2.size
   replace eB := Ext.then eB cL2 (ge_of hfho3_0 (by omega))
   have hlhO := OS.lt hO
   simp only [List.cons_append, List.nil_append]
   have hhl := homL_len X k
   refine den_seq ?_
   refine den_region TTok ?_
   intro K hK
   simp -implicitDefEqProofs (disch := first | decide | assumption | omega) only [go_sem, R1.al hdX (Ext.pres eB) sl55, RdS.al hmX (Ext.pres eB) sl56, R1.an (OS.rd hO) sl55, BoxAt.cell hb0_0, wrap_id]
   refine hK _ _ ?_
   clear hK K
   refine den_seq ?_
   refine den_cond rfl (fun c1 => ?_) (fun c1 => ?_)
   ·try simp only [ddA, Bool.not_eq_true] at c1
    refine den_skip ?_
    refine den_seq ?_
    refine den_block ?_
    refine den_seq ?_
    refine den_region TTok ?_
    intro K hK
    simp -implicitDefEqProofs (disch := first | decide | assumption | omega) only [go_sem, R1.al hdX (Ext.pres eB) sl55, RdS.al hmX (Ext.pres eB) sl56, R1.an (OS.rd hO) sl55, BoxAt.cell hb0_0, wrap_id]
    refine hK _ _ ?_
    clear hK K
    refine den_region TTok ?_
    intro K hK
    simp -implicitDefEqProofs (disch := first | decide | assumption | omega) only [go_sem, ld58, R1.al hdX (Ext.pres eB) sl55, RdS.al hmX (Ext.pres eB) sl56, R1.an (OS.rd hO) sl55, BoxAt.cell hb0_0, wrap_id]
    try simp -implicitDefEqProofs (disch := first | decide | assumption | omega) only [go_sem, R1.al hdX (Ext.pres eB) sl55, RdS.al hmX (Ext.pres eB) sl56, R1.an (OS.rd hO) sl55, BoxAt.cell hb0_0, wrap_id]
    refine CallA.mono (iHom_ok _ X (k : Int) _ ⟨_, _, rfl, (RdS.pres hdX (Ext.pres eB)), (RdS.pres hmX (Ext.pres eB))⟩ hCx (by omega)) ?_
    intro v_ h7_3
    rintro ⟨rfl, e7_3⟩
    replace hO := OS.ext hO e7_3
    replace hb0_0 := BoxAt.ext hb0_0 e7_3
    have := Ext.size e7_3
    replace eB := Ext.trans eB e7_3
    replace cL2 := Chg.stepE cL2 e7_3
    try simp -implicitDefEqProofs (disch := first | decide | assumption | omega) only [go_sem, R1.al hdX (Ext.pres eB) sl55, RdS.al hmX (Ext.pres eB) sl56, R1.an (OS.rd hO) sl55, BoxAt.cell hb0_0, wrap_id]
    refine op_bs1 sz55 rfl rfl ?_
    try simp -implicitDefEqProofs (disch := first | decide | assumption | omega) only [go_sem, R1.al hdX (Ext.pres eB) sl55, RdS.al hmX (Ext.pres eB) sl56, R1.an (OS.rd hO) sl55, BoxAt.cell hb0_0, wrap_id]
    refine op_append1 sz55 hO hfhO.nodup ⟨rfl, rfl⟩ List.nodup_nil (Apart.nil _) (by first | omega | (simp; omega)) rfl rfl ?_
    intro v7_5 h7_5 fp7_5 ho7_5 hn7_5 hs7_5 c7_5
    have hsz7_5 := c7_5.size
    have hfho7_5 : Fresh h1_1.size fp7_5 := Fresh.appd hfhO (Fresh.nil h7_3.size) (by omega) (by omega) hn7_5 hs7_5
    have sb5 : Sub [h1_1.size] h3_0.size fp7_5 := Sub.grow sbhO Sub.nil (by omega) hs7_5
    replace hb0_0 := BoxAt.chgA hb0_0 c7_5 (apart_lt hlhb0_0 hfhO (by omega))
    have := c7_5.size
    replace eB := Ext.then eB c7_5 (ge_of hfhO (by omega))
    replace cL2 := Chg.step cL2 c7_5 sbhO
    have hlho7_5 := OS.lt ho7_5
    try simp -implicitDefEqProofs (disch := first | decide | assumption | omega) only [go_sem, R1.al hdX (Ext.pres eB) sl55, RdS.al hmX (Ext.pres eB) sl56, R1.an (OS.rd ho7_5) sl55, BoxAt.cell hb0_0, wrap_id]
    refine hK _ _ ?_
    clear hK K
    refine den_blk ?_
    refine den_region TTok ?_
    intro K hK
    simp -implicitDefEqProofs (disch := first | decide | assumption | omega) only [go_sem, R1.al hdX (Ext.pres eB) sl55, RdS.al hmX (Ext.pres eB) sl56, R1.an (OS.rd ho7_5) sl55, BoxAt.cell hb0_0, wrap_id]
    refine hK _ _ ?_
    clear hK K
    refine den_stop ?_
    rw [homL_step] at ho7_5
    exact ⟨(k + 1, v7_5, fp7_5), by simp [HasL, puts_at], ⟨by first | omega | (dsimp only; omega), ho7_5, hfho7_5, sb5, cL2⟩, by first | omega | (dsimp only; omega)⟩
   ·try simp only [ddA, Bool.not_eq_true] at c1
    refine den_exit ?_
    refine denX_code ?_
    refine denX_stop ?_
    refine denX_hit ?_
    refine den_seq ?_
    refine den_region TTok ?_
    intro K hK
    simp -implicitDefEqProofs (disch := first | decide | assumption | omega) only [go_sem, R1.al hdX (Ext.pres eB) sl55, RdS.al hmX (Ext.pres eB) sl56, R1.an (OS.rd hO) sl55, wrap_id]
    refine hK _ _ ?_
    clear hK K
    refine den_ret ?_
    simp (disch := decide) only [resP_2, puts_same, puts_ne]
    have hz : homR X = (homL X X.dims.length, 0) := by rw [homR, if_pos c0]
    rw [hz, show X.dims.length = k by omega]
    exact ⟨_, _, rfl, hO, hfhO.mono (by omega), eB⟩
end Go.Proofs.Ytacajcjibhifmaa

namespace Go.Proofs.Ytacajcjibhifmaa
open Go
structure PvOk (X Y : Cx) (i : Int) (u : List Int) (j : Int) (v : List Int) : Prop where
 cX : IsC X
 cY : IsC Y
 p : 0 < X.p ∧ X.p ≤ 7
 ci : 0 ≤ i ∧ i ≤ (X.dims.length : Int) - 1
 cj : 0 ≤ j ∧ j ≤ (Y.dims.length : Int) - 1
 lX : X.dims.length ≤ 6
 lY : Y.dims.length ≤ 6
 cu : (u.length : Int) = dimP X i ∧ Bnd X.p u
 cv : (v.length : Int) = dimP Y j ∧ Bnd X.p v
end Go.Proofs.Ytacajcjibhifmaa

namespace Go.Proofs.Ytacajcjibhifmaa
open Go
section
variable {P : Program} {n : Nat} {K : Env → Heap → Prop} {env : Env} {h : Heap} {d : Option Tmp} {ty : TypeId} {p : String} {a : Array Edge} {g : Option (Nat × Bool)}
end
def famAt (X Y : Cx) (f : List (List (List Int))) (s : Int) (n : Nat) : Bool := tableP X.p (f.getD n default) (X.dims.getD n 0) (dimP Y ((n : Int) + s))
structure IsFam (X Y : Cx) (f : List (List (List Int))) (s : Int) : Prop where
 len : f.length = X.dims.length
 rows : ∀ n, n < f.length → famAt X Y f s n = true
theorem famAt_iff {X Y : Cx} {f : List (List (List Int))} {s : Int} {n : Nat} : famAt X Y f s n = true ↔ ((f.getD n default).length : Int) = X.dims.getD n 0 ∧ (f.getD n default).all (isRow X.p (dimP Y ((n : Int) + s))) = true := by
 simp only [famAt, tableP, Bool.and_eq_true, decide_eq_true_eq]
theorem IsFam.at {X Y : Cx} {f : List (List (List Int))} {s : Int} (h : IsFam X Y f s) {n : Nat} (hn : n < f.length) : ((f.getD n default).length : Int) = X.dims.getD n 0 ∧ Tbl X.p (dimP Y ((n : Int) + s)) (f.getD n default) := tableP_iff.1 (h.rows n hn)
theorem IsFam.row {X Y : Cx} {f : List (List (List Int))} {s : Int} (h : IsFam X Y f s) {n i : Nat} (hn : n < f.length) (hi : i < (f.getD n default).length) : isRow X.p (dimP Y ((n : Int) + s)) ((f.getD n default).getD i default) = true := all_at (d := default) (famAt_iff.1 (h.rows n hn)).2 hi
end Go.Proofs.Ytacajcjibhifmaa

namespace Go.Proofs.Ytacajcjibhifmaa
open Go
/-- What a round of the test of chain maps knows. -/
structure ChnR (X Y : Cx) (f : List (List (List Int))) (k i : Nat) : Prop where
 hi : i < (X.maps.getD k default).length
 ml : k < X.maps.length
 row : (((X.maps.getD k default).getD i default).length : Int) = X.dims.getD k 0 ∧ Bnd X.p ((X.maps.getD k default).getD i default)
 img : (((f.getD ((k : Int) + 1).toNat default).getD i default).length : Int) = Y.dims.getD ((k : Int) + 1).toNat 0 ∧ Bnd Y.p ((f.getD ((k : Int) + 1).toNat default).getD i default)
end Go.Proofs.Ytacajcjibhifmaa

namespace Go.Proofs.Ytacajcjibhifmaa
open Go
structure SumOk (p : Int) (f g : List (List (List Int))) : Prop where
 len : f.length = g.length ∧ f.length ≤ 6
 rows : ∀ n, n < f.length → (f.getD n default).length = (g.getD n default).length ∧ (f.getD n default).length ≤ 8
 row : ∀ n i, n < f.length → i < (f.getD n default).length → ((f.getD n default).getD i default).length = ((g.getD n default).getD i default).length ∧ ((f.getD n default).getD i default).length ≤ 8 ∧ Bnd p ((f.getD n default).getD i default) ∧ Bnd p ((g.getD n default).getD i default)
end Go.Proofs.Ytacajcjibhifmaa

namespace Go.Proofs.Ytacajcjibhifmaa
open Go
/-- A row that is one's own, or one that lies in other blocks. -/
def EM (h0 : Heap) (fE : List Nat) (h : Heap) (u : Value) (x : List Int) (fp : List Nat) : Prop := O1 h u x fp ∨ ESt h0 fE h u x fp
instance {h0 : Heap} {fE : List Nat} : Own (EM h0 fE) := ⟨fun hl h => h.elim (fun a => .inl (Own.loc hl a)) .inr, (fun h => h.elim Own.lt fun a b hb => by rw [a.1] at hb; cases hb), (fun h => h.elim Own.one fun a => a.2.1)⟩
abbrev O2M (h0 : Heap) (fE : List Nat) : Heap → Value → List (List Int) → List Nat → Prop := OS 55 (EM h0 fE)
theorem O2M.nil {h0 : Heap} {fE : List Nat} {h : Heap} {v : Value} {fp : List Nat} (ho : O2 h v [] fp) : O2M h0 fE h v [] fp := by
 rcases ho with ⟨h1, _, h3⟩ | ⟨b, c, cur, fps, rfl, r⟩
 ·exact .inl ⟨h1, rfl, h3⟩
 ·exact .inr ⟨b, c, cur, fps, rfl, ⟨r.val, r.box, r.size, r.max, r.le, r.len, fun j hj => by simp at hj⟩⟩
theorem O2M.rd {h0 : Heap} {fE : List Nat} {h : Heap} {v : Value} {xs : List (List Int)} {fp : List Nat} (ho : O2M h0 fE h v xs fp) (hag : Agr fE h0 h) : R2 h v xs := by
 rcases ho with ⟨rfl, rfl, _⟩ | ⟨b, c, cur, fps, _, r⟩
 ·exact ⟨none, 0, rfl, .inr rfl, by simp, by omega, fun j hj => by simp at hj⟩
 ·refine ⟨some ⟨b, 0, none⟩, c, r.val, .inl rfl, r.le, r.max, fun j hj => ?_⟩
  obtain ⟨u, f, h1, _, h4⟩ := r.el j hj
  refine ⟨u, ?_, h4.elim (fun a => OS.rd a) fun a => a.2.2 h hag⟩
  rw [r.val]
  simp only [sA]
  rw [addr_add, r.box.cell, Nat.zero_add, h1]
theorem ES.row {h : Heap} {vE : Value} {E : List (List Int)} {fE : List Nat} (hE : O2 h vE E fE) (hn : fE.Nodup) {i : Nat} (hi : i < E.length) {H : Heap} : ESt h fE H (rowV h vE i) (E.getD i default) [] := by
 obtain ⟨f, hO, hsub, _, _⟩ := OS.elem hE hn i hi
 exact ⟨rfl, Own.one hO, fun h' hg => OS.rd (show O1 h' (rowV h vE i) (E.getD i default) f from Own.loc (fun b hb => hg b (hsub b hb)) hO)⟩
structure RkOk (X Y : Cx) (f : List (List (List Int))) (n : Int) : Prop where
 cX : IsC X
 cY : IsC Y
 cf : IsFam X Y f 0
 p : X.p = Y.p
 n0 : 0 ≤ n
 n1 : n ≤ (X.dims.length : Int) - 1
end Go.Proofs.Ytacajcjibhifmaa

namespace Go.Proofs.Ytacajcjibhifmaa
open Go
theorem Agr.app {f1 f2 : List Nat} {h0 h : Heap} (a : Agr f1 h0 h) (b : Agr f2 h0 h) : Agr (f1 ++ f2) h0 h := fun x hx => (List.mem_append.1 hx).elim (a x) (b x)
theorem ESt.left {h0 : Heap} {f1 f2 : List Nat} {H : Heap} {u : Value} {x : List Int} {fp : List Nat} (h : ESt h0 f1 H u x fp) : ESt h0 (f1 ++ f2) H u x fp := ⟨h.1, h.2.1, fun h' g => h.2.2 h' (fun b hb => g b (List.mem_append_left _ hb))⟩
theorem ESt.right {h0 : Heap} {f1 f2 : List Nat} {H : Heap} {u : Value} {x : List Int} {fp : List Nat} (h : ESt h0 f2 H u x fp) : ESt h0 (f1 ++ f2) H u x fp := ⟨h.1, h.2.1, fun h' g => h.2.2 h' (fun b hb => g b (List.mem_append_right _ hb))⟩
end Go.Proofs.Ytacajcjibhifmaa

namespace Go.Proofs.Ytacajcjibhifmaa
open Go
theorem bF0 : buildV TT 61 [] = some (.agg #[.int .i64 0, .slice none 0 0, .slice none 0 0, .slice none 0 0]) := by kernel_rfl
theorem bF2 {v w x : Value} (hv : ∃ A n c, v = .slice A n c) (hw : ∃ A n c, w = .slice A n c) (hx : ∃ A n c, x = .slice A n c) (p : Int) : buildV TT 61 [(0, .agg #[.int .i64 p, v, w]), (1, x)] = some (.agg #[.int .i64 p, v, w, x]) := by
 obtain ⟨A, n, c, rfl⟩ := hv
 obtain ⟨A', n', c', rfl⟩ := hw
 obtain ⟨B, m, d, rfl⟩ := hx
 kernel_rfl
end Go.Proofs.Ytacajcjibhifmaa

namespace Go.Proofs.Ytacajcjibhifmaa
open Go
def mbT (X : Dg) (n : Int) (m : Nat) : List Int := ((List.range m).filter fun i : Nat => decide (X.deg i = n)).map fun i : Nat => (i : Int)
def mbP (X : Dg) (n : Int) : List Int := mbT X n X.s.toNat
theorem mbT_yes {X : Dg} {n : Int} {m : Nat} (h : X.deg m = n) : mbT X n m ++ [(m : Int)] = mbT X n (m + 1) := by
 unfold mbT
 rw [List.range_succ, List.filter_append, List.map_append]
 simp [h]
theorem mbT_no {X : Dg} {n : Int} {m : Nat} (h : ¬ X.deg m = n) : mbT X n m = mbT X n (m + 1) := by
 unfold mbT
 rw [List.range_succ, List.filter_append, List.map_append]
 simp [h]
theorem mbT_len (X : Dg) (n : Int) (m : Nat) : (mbT X n m).length ≤ m := by
 unfold mbT
 rw [List.length_map]
 exact Nat.le_trans (List.length_filter_le _ _) (by simp)
theorem mbP_len {X : Dg} (hs : 1 ≤ X.s ∧ X.s ≤ 8) (n : Int) : (mbP X n).length ≤ 8 := by
 have := mbT_len X n X.s.toNat
 unfold mbP; omega
theorem mb_at {X : Dg} {n : Int} {k : Nat} (hk : k < (mbP X n).length) : 0 ≤ (mbP X n).getD k 0 ∧ (mbP X n).getD k 0 < X.s ∧ X.deg ((mbP X n).getD k 0).toNat = n := by
 have h : (mbP X n)[k] ∈ mbP X n := List.getElem_mem hk
 obtain ⟨i, hi, e⟩ := List.mem_map.1 h
 rw [List.mem_filter, List.mem_range, decide_eq_true_eq] at hi
 have e2 : (mbP X n).getD k 0 = (i : Int) := by rw [List.getD_eq_getElem?_getD, List.getElem?_eq_getElem hk]; exact e.symm
 rw [e2, Int.toNat_natCast]
 exact ⟨by omega, by omega, hi.2⟩
def vcP (X : Dg) (n : Int) (u : Nat → Int) : List Int := (mbP X n).map fun z : Int => u z.toNat
def fcV (X : Dg) (n : Int) : List Int := (mbP X n).map fun z : Int => X.lev z.toNat
def fcR (X : Dg) (n : Int) : List (List Int) := (mbP X n).map fun z : Int => vcP X (n - 1) (X.dif z.toNat)
def fcD (X : Dg) (k : Nat) : List Int := (List.range k).map fun n : Nat => ((mbP X (n : Int)).length : Int)
def fcL (X : Dg) (k : Nat) : List (List Int) := (List.range k).map fun n : Nat => fcV X (n : Int)
def fcM (X : Dg) (k : Nat) : List (List (List Int)) := (List.range k).map fun m : Nat => fcR X ((m : Int) + 1)
def fcT (X : Dg) : Nat := (X.deg (X.s - 1).toNat + 1).toNat
def fcP (X : Dg) : Fl := ⟨⟨X.p, fcD X (fcT X), fcM X (fcT X - 1)⟩, fcL X (fcT X)⟩
theorem fcD_len (X : Dg) (k : Nat) : (fcD X k).length = k := by simp [fcD]
theorem fcL_len (X : Dg) (k : Nat) : (fcL X k).length = k := by simp [fcL]
theorem fcM_len (X : Dg) (k : Nat) : (fcM X k).length = k := by simp [fcM]
theorem fcD_step (X : Dg) (k : Nat) : fcD X k ++ [((mbP X (k : Int)).length : Int)] = fcD X (k + 1) := range_step (fun n : Nat => ((mbP X (n : Int)).length : Int)) k
theorem fcL_step (X : Dg) (k : Nat) : fcL X k ++ [fcV X (k : Int)] = fcL X (k + 1) := range_step (fun n : Nat => fcV X (n : Int)) k
theorem fcM_step {X : Dg} {n : Nat} (h : 1 ≤ n) : fcM X (n - 1) ++ [fcR X (n : Int)] = fcM X (n + 1 - 1) := by
 obtain ⟨m, rfl⟩ : ∃ m, n = m + 1 := ⟨n - 1, by omega⟩
 exact range_step (fun m : Nat => fcR X ((m : Int) + 1)) m

set_option maxRecDepth 100000 in
set_option maxHeartbeats 4000000 in
theorem iMb_ok (X : Dg) (n : Int) (h : Heap)  (hs : 1 ≤ X.s ∧ X.s ≤ 8) : CallA Try.prog 95 #[.agg (dgA X), .int .i64 n] h fun v' h' => ∃ w0 f0, v' = w0 ∧ O1 h' w0 (mbP X n) f0 ∧ Fresh h.size f0 ∧ Ext h h' := by
 refine callA_intro TTok (args := [_, _]) Try.func95 (by kernel_rfl) rfl 25 rfl (by simp) [.tmp 4] rfl ?_
 simp only [idxs, Nat.reduceAdd]
 refine den_seq ?_
 refine den_region TTok ?_
 intro K hK
 simp -implicitDefEqProofs (disch := first | decide | assumption | omega) only [go_sem, wrap_id, sbs, Int.toNat_zero]
 refine op_box (cs := dgA X) rfl ?_
 intro h0_0 e0_0 hb0_0 z0_0
 have := Ext.size e0_0
 have eB := e0_0
 have hfhb0_0 : Fresh h.size [h.size] := Fresh.one _
 have hlhb0_0 := one_lt (show h.size < h0_0.size by omega)
 try simp -implicitDefEqProofs (disch := first | decide | assumption | omega) only [go_sem, wrap_id, sbs, Int.toNat_zero]
 refine hK _ _ ?_
 clear hK K
 refine den_seq ?_
 refine den_region TTok ?_
 intro K hK
 simp -implicitDefEqProofs (disch := first | decide | assumption | omega) only [go_sem, wrap_id, sbs, Int.toNat_zero]
 refine op_bs0 sz55 OI ?_
 intro v1_0 h1_0 ho1_0 e1_0
 replace hb0_0 := BoxAt.ext hb0_0 e1_0
 have := Ext.size e1_0
 replace eB := Ext.trans eB e1_0
 have hfho1_0 : Fresh h0_0.size [h0_0.size] := Fresh.one _
 have hlho1_0 := OS.lt ho1_0
 try simp -implicitDefEqProofs (disch := first | decide | assumption | omega) only [go_sem, R1.an (OS.rd ho1_0) sl55, wrap_id, sbs, Int.toNat_zero]
 refine hK _ _ ?_
 clear hK K
 refine den_seq ?_
 refine den_seq ?_
 refine den_region TTok ?_
 intro K hK
 simp -implicitDefEqProofs (disch := first | decide | assumption | omega) only [go_sem, fa34_1, ld2, BoxAt.dgs hb0_0, wrap_id, sbs, Int.toNat_zero]
 refine hK _ _ ?_
 clear hK K
 refine den_block ?_
 refine den_sel [5, 10, 1, 2, 9] ?_
 intro env_1
 simp only [go_sem]
 refine den_loopS (σ := Nat × Value × List Nat) (fun st_ => [(5, st_.2.1), (10, .int .i64 (st_.1 : Int))]) (fun st_ H => ((st_.1 : Int) ≤ X.s) ∧ (O1 H st_.2.1 (mbT X n st_.1) st_.2.2) ∧ (Fresh (h0_0.size) st_.2.2) ∧ (Sub [h0_0.size] h1_0.size st_.2.2) ∧ (Chg [h0_0.size] h1_0 H)) (fun st_ => X.s.toNat - st_.1) (0, v1_0, [h0_0.size]) ?_ ?_
 ·exact ⟨by omega, by show O1 _ _ [] _; exact ho1_0, hfho1_0, Sub.refl, Chg.refl _ _⟩
 ·rintro ⟨i, vhO, fphO⟩ h4 ee3 ⟨hi0, hO, hfhO, sbhO, cL2⟩
  dsimp only at hi0 hO hfhO sbhO cL2
  replace hb0_0 := BoxAt.chgA hb0_0 cL2 (apart_lt hlhb0_0 hfho1_0 (by omega))
  have := cL2.size
  replace eB := Ext.then eB cL2 (ge_of hfho1_0 (by omega))
  have hlhO := OS.lt hO
  simp only [List.cons_append, List.nil_append]
  have hkl := mbT_len X n i
  refine den_seq ?_
  refine den_region TTok ?_
  intro K hK
  simp -implicitDefEqProofs (disch := first | decide | assumption | omega) only [go_sem, wrap_id, sbs, Int.toNat_zero]
  refine hK _ _ ?_
  clear hK K
  refine den_seq ?_
  refine den_cond rfl (fun c0 => ?_) (fun c0 => ?_)
  ·try simp only [ddA] at c0
   refine den_skip ?_
   refine den_seq ?_
   refine den_block ?_
   refine den_seq ?_
   refine den_region TTok ?_
   intro K hK
   simp -implicitDefEqProofs (disch := first | decide | assumption | omega) only [go_sem, wrap_id, sbs, Int.toNat_zero]
   refine hK _ _ ?_
   clear hK K
   refine den_seq ?_
   refine den_region TTok ?_
   intro K hK
   simp -implicitDefEqProofs (disch := first | decide | assumption | omega) only [go_sem, Int.toNat_zero, fa34_2, ia22, ld2, BoxAt.dgs hb0_0, wrap_id, sbs, Int.toNat_zero]
   refine hK _ _ ?_
   clear hK K
   refine den_cond rfl (fun c1 => ?_) (fun c1 => ?_)
   ·try simp only [ddA] at c1
    refine den_region TTok ?_
    intro K hK
    simp -implicitDefEqProofs (disch := first | decide | assumption | omega) only [go_sem, R1.an (OS.rd hO) sl55, wrap_id, sbs, Int.toNat_zero]
    refine op_bs1 sz55 rfl rfl ?_
    try simp -implicitDefEqProofs (disch := first | decide | assumption | omega) only [go_sem, wrap_id, sbs, Int.toNat_zero]
    refine op_append1 sz55 hO hfhO.nodup ⟨rfl, rfl⟩ List.nodup_nil (Apart.nil _) (by first | omega | (simp; omega)) rfl rfl ?_
    intro v6_3 h6_3 fp6_3 ho6_3 hn6_3 hs6_3 c6_3
    have hsz6_3 := c6_3.size
    have hfho6_3 : Fresh h0_0.size fp6_3 := Fresh.appd hfhO (Fresh.nil h4.size) (by omega) (by omega) hn6_3 hs6_3
    have sb5 : Sub [h0_0.size] h1_0.size fp6_3 := Sub.grow sbhO Sub.nil (by omega) hs6_3
    replace hb0_0 := BoxAt.chgA hb0_0 c6_3 (apart_lt hlhb0_0 hfhO (by omega))
    have := c6_3.size
    replace eB := Ext.then eB c6_3 (ge_of hfhO (by omega))
    replace cL2 := Chg.step cL2 c6_3 sbhO
    have hlho6_3 := OS.lt ho6_3
    try simp -implicitDefEqProofs (disch := first | decide | assumption | omega) only [go_sem, R1.an (OS.rd ho6_3) sl55, wrap_id, sbs, Int.toNat_zero]
    refine hK _ _ ?_
    clear hK K
    refine den_blk ?_
    refine den_region TTok ?_
    intro K hK
    simp -implicitDefEqProofs (disch := first | decide | assumption | omega) only [go_sem, wrap_id, sbs, Int.toNat_zero]
    refine hK _ _ ?_
    clear hK K
    refine den_stop ?_
    first | rw [mbT_yes c1] at ho6_3 | rw [mbT_no c1] at ho6_3
    exact ⟨(i + 1, v6_3, fp6_3), by simp [HasL, puts_at], ⟨by first | omega | (dsimp only; omega), ho6_3, hfho6_3, sb5, cL2⟩, by first | omega | (dsimp only; omega)⟩
   ·try simp only [ddA] at c1
    refine den_skip ?_
    refine den_blk ?_
    refine den_region TTok ?_
    intro K hK
    simp -implicitDefEqProofs (disch := first | decide | assumption | omega) only [go_sem, wrap_id, sbs, Int.toNat_zero]
    refine hK _ _ ?_
    clear hK K
    refine den_stop ?_
    first | rw [mbT_yes c1] at hO | rw [mbT_no c1] at hO
    exact ⟨(i + 1, vhO, fphO), by simp [HasL, puts_at], ⟨by first | omega | (dsimp only; omega), hO, hfhO, sbhO, cL2⟩, by first | omega | (dsimp only; omega)⟩
  ·try simp only [ddA] at c0
   refine den_exit ?_
   refine denX_code ?_
   refine denX_stop ?_
   refine denX_hit ?_
   refine den_seq ?_
   refine den_region TTok ?_
   intro K hK
   simp -implicitDefEqProofs (disch := first | decide | assumption | omega) only [go_sem, R1.an (OS.rd hO) sl55, wrap_id, sbs, Int.toNat_zero]
   refine hK _ _ ?_
   clear hK K
   refine den_ret ?_
   simp (disch := decide) only [resP_1, puts_same, puts_ne]
   rw [show i = X.s.toNat by omega] at hO
   change O1 _ _ (mbP X n) _ at hO
   exact ⟨_, _, rfl, hO, hfhO.mono (by omega), eB⟩

set_option maxRecDepth 100000 in
set_option maxHeartbeats 4000000 in
theorem sMb_ok (X : Dg) (n : Int) (h : Heap)  (hs : 1 ≤ X.s ∧ X.s ≤ 8) : CallA Try.prog 93 #[.agg (dgA X), .int .i64 n] h fun v' h' => ∃ w0 f0, v' = w0 ∧ O1 h' w0 (mbP X n) f0 ∧ Fresh h.size f0 ∧ Ext h h' := by
 refine callA_intro TTok (args := [_, _]) Try.func93 (by kernel_rfl) rfl 25 rfl (by simp) [.tmp 4] rfl ?_
 simp only [idxs, Nat.reduceAdd]
 refine den_seq ?_
 refine den_region TTok ?_
 intro K hK
 simp -implicitDefEqProofs (disch := first | decide | assumption | omega) only [go_sem, wrap_id, sbs, Int.toNat_zero]
 refine op_box (cs := dgA X) rfl ?_
 intro h0_0 e0_0 hb0_0 z0_0
 have := Ext.size e0_0
 have eB := e0_0
 have hfhb0_0 : Fresh h.size [h.size] := Fresh.one _
 have hlhb0_0 := one_lt (show h.size < h0_0.size by omega)
 try simp -implicitDefEqProofs (disch := first | decide | assumption | omega) only [go_sem, wrap_id, sbs, Int.toNat_zero]
 refine hK _ _ ?_
 clear hK K
 refine den_seq ?_
 refine den_region TTok ?_
 intro K hK
 simp -implicitDefEqProofs (disch := first | decide | assumption | omega) only [go_sem, wrap_id, sbs, Int.toNat_zero]
 refine op_bs0 sz55 OI ?_
 intro v1_0 h1_0 ho1_0 e1_0
 replace hb0_0 := BoxAt.ext hb0_0 e1_0
 have := Ext.size e1_0
 replace eB := Ext.trans eB e1_0
 have hfho1_0 : Fresh h0_0.size [h0_0.size] := Fresh.one _
 have hlho1_0 := OS.lt ho1_0
 try simp -implicitDefEqProofs (disch := first | decide | assumption | omega) only [go_sem, R1.an (OS.rd ho1_0) sl55, wrap_id, sbs, Int.toNat_zero]
 refine hK _ _ ?_
 clear hK K
 refine den_seq ?_
 refine den_seq ?_
 refine den_region TTok ?_
 intro K hK
 simp -implicitDefEqProofs (disch := first | decide | assumption | omega) only [go_sem, wrap_id, sbs, Int.toNat_zero]
 refine hK _ _ ?_
 clear hK K
 refine den_block ?_
 refine den_sel [5, 6, 1, 2] ?_
 intro env_1
 simp only [go_sem]
 refine den_loopS (σ := Nat × Value × List Nat) (fun st_ => [(5, st_.2.1), (6, .int .i64 (st_.1 : Int))]) (fun st_ H => ((st_.1 : Int) ≤ X.s) ∧ (O1 H st_.2.1 (mbT X n st_.1) st_.2.2) ∧ (Fresh (h0_0.size) st_.2.2) ∧ (Sub [h0_0.size] h1_0.size st_.2.2) ∧ (Chg [h0_0.size] h1_0 H)) (fun st_ => X.s.toNat - st_.1) (0, v1_0, [h0_0.size]) ?_ ?_
 ·exact ⟨by omega, by show O1 _ _ [] _; exact ho1_0, hfho1_0, Sub.refl, Chg.refl _ _⟩
 ·rintro ⟨i, vhO, fphO⟩ h4 ee3 ⟨hi0, hO, hfhO, sbhO, cL2⟩
  dsimp only at hi0 hO hfhO sbhO cL2
  replace hb0_0 := BoxAt.chgA hb0_0 cL2 (apart_lt hlhb0_0 hfho1_0 (by omega))
  have := cL2.size
  replace eB := Ext.then eB cL2 (ge_of hfho1_0 (by omega))
  have hlhO := OS.lt hO
  simp only [List.cons_append, List.nil_append]
  have hkl := mbT_len X n i
  refine den_seq ?_
  refine den_seq ?_
  refine den_region TTok ?_
  intro K hK
  simp -implicitDefEqProofs (disch := first | decide | assumption | omega) only [go_sem, fa34_1, ld2, BoxAt.dgs hb0_0, wrap_id, sbs, Int.toNat_zero]
  refine hK _ _ ?_
  clear hK K
  refine den_cond rfl (fun c0 => ?_) (fun c0 => ?_)
  ·try simp only [ddA] at c0
   refine den_skip ?_
   refine den_seq ?_
   refine den_block ?_
   refine den_seq ?_
   refine den_region TTok ?_
   intro K hK
   simp -implicitDefEqProofs (disch := first | decide | assumption | omega) only [go_sem, Int.toNat_zero, fa34_2, ia22, ld2, BoxAt.dgs hb0_0, wrap_id, sbs, Int.toNat_zero]
   refine hK _ _ ?_
   clear hK K
   refine den_cond rfl (fun c1 => ?_) (fun c1 => ?_)
   ·try simp only [ddA] at c1
    refine den_region TTok ?_
    intro K hK
    simp -implicitDefEqProofs (disch := first | decide | assumption | omega) only [go_sem, R1.an (OS.rd hO) sl55, wrap_id, sbs, Int.toNat_zero]
    refine op_bs1 sz55 rfl rfl ?_
    try simp -implicitDefEqProofs (disch := first | decide | assumption | omega) only [go_sem, wrap_id, sbs, Int.toNat_zero]
    refine op_append1 sz55 hO hfhO.nodup ⟨rfl, rfl⟩ List.nodup_nil (Apart.nil _) (by first | omega | (simp; omega)) rfl rfl ?_
    intro v6_3 h6_3 fp6_3 ho6_3 hn6_3 hs6_3 c6_3
    have hsz6_3 := c6_3.size
    have hfho6_3 : Fresh h0_0.size fp6_3 := Fresh.appd hfhO (Fresh.nil h4.size) (by omega) (by omega) hn6_3 hs6_3
    have sb5 : Sub [h0_0.size] h1_0.size fp6_3 := Sub.grow sbhO Sub.nil (by omega) hs6_3
    replace hb0_0 := BoxAt.chgA hb0_0 c6_3 (apart_lt hlhb0_0 hfhO (by omega))
    have := c6_3.size
    replace eB := Ext.then eB c6_3 (ge_of hfhO (by omega))
    replace cL2 := Chg.step cL2 c6_3 sbhO
    have hlho6_3 := OS.lt ho6_3
    try simp -implicitDefEqProofs (disch := first | decide | assumption | omega) only [go_sem, R1.an (OS.rd ho6_3) sl55, wrap_id, sbs, Int.toNat_zero]
    refine hK _ _ ?_
    clear hK K
    refine den_blk ?_
    refine den_region TTok ?_
    intro K hK
    simp -implicitDefEqProofs (disch := first | decide | assumption | omega) only [go_sem, wrap_id, sbs, Int.toNat_zero]
    refine hK _ _ ?_
    clear hK K
    refine den_stop ?_
    first | rw [mbT_yes c1] at ho6_3 | rw [mbT_no c1] at ho6_3
    exact ⟨(i + 1, v6_3, fp6_3), by simp [HasL, puts_at], ⟨by first | omega | (dsimp only; omega), ho6_3, hfho6_3, sb5, cL2⟩, by first | omega | (dsimp only; omega)⟩
   ·try simp only [ddA] at c1
    refine den_skip ?_
    refine den_blk ?_
    refine den_region TTok ?_
    intro K hK
    simp -implicitDefEqProofs (disch := first | decide | assumption | omega) only [go_sem, wrap_id, sbs, Int.toNat_zero]
    refine hK _ _ ?_
    clear hK K
    refine den_stop ?_
    first | rw [mbT_yes c1] at hO | rw [mbT_no c1] at hO
    exact ⟨(i + 1, vhO, fphO), by simp [HasL, puts_at], ⟨by first | omega | (dsimp only; omega), hO, hfhO, sbhO, cL2⟩, by first | omega | (dsimp only; omega)⟩
  ·try simp only [ddA] at c0
   refine den_exit ?_
   refine denX_code ?_
   refine denX_stop ?_
   refine denX_hit ?_
   refine den_seq ?_
   refine den_region TTok ?_
   intro K hK
   simp -implicitDefEqProofs (disch := first | decide | assumption | omega) only [go_sem, R1.an (OS.rd hO) sl55, wrap_id, sbs, Int.toNat_zero]
   refine hK _ _ ?_
   clear hK K
   refine den_ret ?_
   simp (disch := decide) only [resP_1, puts_same, puts_ne]
   rw [show i = X.s.toNat by omega] at hO
   change O1 _ _ (mbP X n) _ at hO
   exact ⟨_, _, rfl, hO, hfhO.mono (by omega), eB⟩

set_option maxRecDepth 100000 in
set_option maxHeartbeats 4000000 in
theorem sVc_ok (X : Dg) (n : Int) (u : Nat → Int) (h : Heap)  (hs : 1 ≤ X.s ∧ X.s ≤ 8) (hu : By u) : CallA Try.prog 94 #[.agg (dgA X), .int .i64 n, .agg (elA u)] h fun v' h' => ∃ w0 f0, v' = w0 ∧ O1 h' w0 (vcP X n u) f0 ∧ Fresh h.size f0 ∧ Ext h h' := by
 have hml := mbP_len hs n
 refine callA_intro TTok (args := [_, _, _]) Try.func94 (by kernel_rfl) rfl 31 rfl (by simp) [.tmp 6] rfl ?_
 simp only [idxs, Nat.reduceAdd]
 refine den_seq ?_
 refine den_region TTok ?_
 intro K hK
 simp -implicitDefEqProofs (disch := first | decide | assumption | omega) only [go_sem, wrap_id, sbs, Int.toNat_zero]
 refine op_box (cs := dgA X) rfl ?_
 intro h0_0 e0_0 hb0_0 z0_0
 have := Ext.size e0_0
 have eB := e0_0
 have hfhb0_0 : Fresh h.size [h.size] := Fresh.one _
 have hlhb0_0 := one_lt (show h.size < h0_0.size by omega)
 try simp -implicitDefEqProofs (disch := first | decide | assumption | omega) only [go_sem, wrap_id, sbs, Int.toNat_zero]
 refine op_box (cs := elA u) rfl ?_
 intro h0_1 e0_1 hb0_1 z0_1
 replace hb0_0 := BoxAt.ext hb0_0 e0_1
 have := Ext.size e0_1
 replace eB := Ext.trans eB e0_1
 have hfhb0_1 : Fresh h0_0.size [h0_0.size] := Fresh.one _
 have hlhb0_1 := one_lt (show h0_0.size < h0_1.size by omega)
 try simp -implicitDefEqProofs (disch := first | decide | assumption | omega) only [go_sem, wrap_id, sbs, Int.toNat_zero]
 refine hK _ _ ?_
 clear hK K
 refine den_seq ?_
 refine den_region TTok ?_
 intro K hK
 simp -implicitDefEqProofs (disch := first | decide | assumption | omega) only [go_sem, BoxAt.dgs hb0_0, wrap_id, sbs, Int.toNat_zero]
 try simp -implicitDefEqProofs (disch := first | decide | assumption | omega) only [go_sem, wrap_id, sbs, Int.toNat_zero]
 refine CallA.mono (sMb_ok  X n _  (by omega)) ?_
 intro vw1_2_0 h1_2
 rintro ⟨zvw1_2_0, fw1_2_0, rfl, how1_2_0, hfw1_2_0, e1_2⟩
 replace hb0_0 := BoxAt.ext hb0_0 e1_2
 replace hb0_1 := BoxAt.ext hb0_1 e1_2
 have := Ext.size e1_2
 replace eB := Ext.trans eB e1_2
 have hlhow1_2_0 := OS.lt how1_2_0
 try simp -implicitDefEqProofs (disch := first | decide | assumption | omega) only [go_sem, wrap_id, sbs, Int.toNat_zero]
 refine op_bs0 sz55 OI ?_
 intro v1_3 h1_3 ho1_3 e1_3
 replace how1_2_0 := OS.ext how1_2_0 e1_3
 replace hb0_0 := BoxAt.ext hb0_0 e1_3
 replace hb0_1 := BoxAt.ext hb0_1 e1_3
 have := Ext.size e1_3
 replace eB := Ext.trans eB e1_3
 have hfho1_3 : Fresh h1_2.size [h1_2.size] := Fresh.one _
 have hlho1_3 := OS.lt ho1_3
 try simp -implicitDefEqProofs (disch := first | decide | assumption | omega) only [go_sem, R1.an (OS.rd how1_2_0) sl55, R1.an (OS.rd ho1_3) sl55, wrap_id, sbs, Int.toNat_zero]
 refine hK _ _ ?_
 clear hK K
 refine den_seq ?_
 refine den_seq ?_
 refine den_region TTok ?_
 intro K hK
 simp -implicitDefEqProofs (disch := first | decide | assumption | omega) only [go_sem, wrap_id, sbs, Int.toNat_zero]
 refine hK _ _ ?_
 clear hK K
 refine den_block ?_
 refine den_sel [8, 9, 5, 7] ?_
 intro env_1
 simp only [go_sem]
 refine den_loopS (σ := Nat × Value × List Nat) (fun st_ => [(8, st_.2.1), (9, .int .i64 (st_.1 : Int))]) (fun st_ H => (st_.1 ≤ (mbP X n).length) ∧ (O1 H st_.2.1 (((mbP X n).take st_.1).map (fun z : Int => u z.toNat)) st_.2.2) ∧ (Fresh (h1_2.size) st_.2.2) ∧ (Sub [h1_2.size] h1_3.size st_.2.2) ∧ (Chg [h1_2.size] h1_3 H)) (fun st_ => (mbP X n).length - st_.1) (0, v1_3, [h1_2.size]) ?_ ?_
 ·exact ⟨by first | (simp; done) | (dsimp only; omega) | (simp; omega), by simpa using ho1_3, hfho1_3, Sub.refl, Chg.refl _ _⟩
 ·rintro ⟨k, vhO, fphO⟩ h4 ee3 ⟨hi0, hO, hfhO, sbhO, cL2⟩
  dsimp only at hi0 hO hfhO sbhO cL2
  replace how1_2_0 := OS.chg how1_2_0 cL2 (apart_lt hlhow1_2_0 hfho1_3 (by omega))
  replace hb0_1 := BoxAt.chgA hb0_1 cL2 (apart_lt hlhb0_1 hfho1_3 (by omega))
  have := cL2.size
  replace eB := Ext.then eB cL2 (ge_of hfho1_3 (by omega))
  have hlhO := OS.lt hO
  simp only [List.cons_append, List.nil_append]
  refine den_seq ?_
  refine den_seq ?_
  refine den_region TTok ?_
  intro K hK
  simp -implicitDefEqProofs (disch := first | decide | assumption | omega) only [go_sem, R1.an (OS.rd how1_2_0) sl55, wrap_id, sbs, Int.toNat_zero]
  refine hK _ _ ?_
  clear hK K
  refine den_cond rfl (fun c0 => ?_) (fun c0 => ?_)
  ·try simp only [ddA] at c0
   refine den_skip ?_
   refine den_seq ?_
   refine den_block ?_
   have hat := mb_at (X := X) (n := n) (k := k) (by omega)
   have hui := hu ((mbP X n).getD k 0).toNat
   have hmt : (((mbP X n).take k).map (fun z : Int => u z.toNat)).length ≤ 8 := by rw [List.length_map, List.length_take]; omega
   refine den_region TTok ?_
   intro K hK
   simp -implicitDefEqProofs (disch := first | decide | assumption | omega) only [go_sem, Int.toNat_zero, T2, T5, ia30, ld2, ld5, R1.an (OS.rd how1_2_0) sl55, R1.an (OS.rd hO) sl55, BoxAt.elC hb0_1, BoxAt.elL hb0_1, wrap_id, sbs, Int.toNat_zero]
   refine op_bs1 sz55 rfl rfl ?_
   try simp -implicitDefEqProofs (disch := first | decide | assumption | omega) only [go_sem, wrap_id, sbs, Int.toNat_zero]
   refine op_append1 sz55 hO hfhO.nodup ⟨rfl, rfl⟩ List.nodup_nil (Apart.nil _) (by first | omega | (simp; omega)) rfl rfl ?_
   intro v5_9 h5_9 fp5_9 ho5_9 hn5_9 hs5_9 c5_9
   have hsz5_9 := c5_9.size
   have hfho5_9 : Fresh h1_2.size fp5_9 := Fresh.appd hfhO (Fresh.nil h4.size) (by omega) (by omega) hn5_9 hs5_9
   have sb5 : Sub [h1_2.size] h1_3.size fp5_9 := Sub.grow sbhO Sub.nil (by omega) hs5_9
   replace how1_2_0 := OS.chg how1_2_0 c5_9 (apart_lt hlhow1_2_0 hfhO (by omega))
   replace hb0_1 := BoxAt.chgA hb0_1 c5_9 (apart_lt hlhb0_1 hfhO (by omega))
   have := c5_9.size
   replace eB := Ext.then eB c5_9 (ge_of hfhO (by omega))
   replace cL2 := Chg.step cL2 c5_9 sbhO
   have hlho5_9 := OS.lt ho5_9
   try simp -implicitDefEqProofs (disch := first | decide | assumption | omega) only [go_sem, R1.an (OS.rd ho5_9) sl55, wrap_id, sbs, Int.toNat_zero]
   refine hK _ _ ?_
   clear hK K
   refine den_blk ?_
   refine den_region TTok ?_
   intro K hK
   simp -implicitDefEqProofs (disch := first | decide | assumption | omega) only [go_sem, wrap_id, sbs, Int.toNat_zero]
   refine hK _ _ ?_
   clear hK K
   refine den_stop ?_
   rw [map_takeL (f := fun z : Int => u z.toNat) (d := 0) (by omega)] at ho5_9
   exact ⟨(k + 1, v5_9, fp5_9), by simp [HasL, puts_at], ⟨by first | omega | (dsimp only; omega), ho5_9, hfho5_9, sb5, cL2⟩, by first | omega | (dsimp only; omega)⟩
  ·try simp only [ddA] at c0
   refine den_exit ?_
   refine denX_code ?_
   refine denX_stop ?_
   refine denX_hit ?_
   refine den_seq ?_
   refine den_region TTok ?_
   intro K hK
   simp -implicitDefEqProofs (disch := first | decide | assumption | omega) only [go_sem, R1.an (OS.rd hO) sl55, wrap_id, sbs, Int.toNat_zero]
   refine hK _ _ ?_
   clear hK K
   refine den_ret ?_
   simp (disch := decide) only [resP_1, puts_same, puts_ne]
   rw [map_takeE (by omega)] at hO
   change O1 _ _ (vcP X n u) _ at hO
   exact ⟨_, _, rfl, hO, hfhO.mono (by omega), eB⟩

set_option maxRecDepth 100000 in
set_option maxHeartbeats 4000000 in
theorem sFc_ok (X : Dg) (h : Heap)  (hB : DgB X) (hfm : IsFm X) : CallA Try.prog 71 #[.agg (dgA X)] h fun v' h' => ∃ wd0 wm0 wv0 fd0 fm0 fv0, v' = .agg #[.int .i64 (fcP X).c.p, wd0, wm0, wv0] ∧ O1 h' wd0 (fcP X).c.dims fd0 ∧ O3 h' wm0 (fcP X).c.maps fm0 ∧ O2 h' wv0 (fcP X).lv fv0 ∧ Fresh h.size (fd0 ++ (fm0 ++ fv0)) ∧ Ext h h' := by
 have hBd := hB.dif
 have hs := hfm.s
 have htop := (hfm.row (X.s - 1).toNat (by omega)).deg
 have hT : (fcT X : Int) = X.deg (X.s - 1).toNat + 1 := by unfold fcT; omega
 refine callA_intro TTok (args := [_]) Try.func71 (by kernel_rfl) rfl 87 rfl (by simp) [.cell 2 61] rfl ?_
 simp only [idxs, Nat.reduceAdd]
 refine den_seq ?_
 refine den_region TTok ?_
 intro K hK
 simp -implicitDefEqProofs (disch := first | decide | assumption | omega) only [go_sem, wrap_id, sbs, Int.toNat_zero, bF0]
 refine op_box (cs := dgA X) rfl ?_
 intro h0_0 e0_0 hb0_0 z0_0
 have := Ext.size e0_0
 have eB := e0_0
 have hfhb0_0 : Fresh h.size [h.size] := Fresh.one _
 have hlhb0_0 := one_lt (show h.size < h0_0.size by omega)
 try simp -implicitDefEqProofs (disch := first | decide | assumption | omega) only [go_sem, wrap_id, sbs, Int.toNat_zero, bF0]
 refine op_alloc (cs := #[.int .i64 0, .slice none 0 0, .slice none 0 0, .slice none 0 0]) (by kernel_rfl) ?_
 intro h0_1 e0_1 hb0_1 z0_1
 replace hb0_0 := BoxAt.ext hb0_0 e0_1
 have := Ext.size e0_1
 replace eB := Ext.trans eB e0_1
 have hfhb0_1 : Fresh h0_0.size [h0_0.size] := Fresh.one _
 have hlhb0_1 := one_lt (show h0_0.size < h0_1.size by omega)
 try simp -implicitDefEqProofs (disch := first | decide | assumption | omega) only [go_sem, BoxAt.cell hb0_1, wrap_id, sbs, Int.toNat_zero, bF0]
 refine hK _ _ ?_
 clear hK K
 refine den_seq ?_
 refine den_region TTok ?_
 intro K hK
 simp -implicitDefEqProofs (disch := first | decide | assumption | omega) only [go_sem, fa34_0, ld2, BoxAt.dgs hb0_0, wrap_id, sbs, Int.toNat_zero, bF0]
 refine op_bs0 sz55 OI ?_
 intro v1_2 h1_2 ho1_2 e1_2
 replace hb0_0 := BoxAt.ext hb0_0 e1_2
 replace hb0_1 := BoxAt.ext hb0_1 e1_2
 have := Ext.size e1_2
 replace eB := Ext.trans eB e1_2
 have hfho1_2 : Fresh h0_1.size [h0_1.size] := Fresh.one _
 have hlho1_2 := OS.lt ho1_2
 try simp -implicitDefEqProofs (disch := first | decide | assumption | omega) only [go_sem, BoxAt.cell hb0_1, wrap_id, sbs, Int.toNat_zero, bF0]
 refine op_bs0 sz56 O2 ?_
 intro v1_3 h1_3 ho1_3 e1_3
 replace ho1_2 := OS.ext ho1_2 e1_3
 replace hb0_0 := BoxAt.ext hb0_0 e1_3
 replace hb0_1 := BoxAt.ext hb0_1 e1_3
 have := Ext.size e1_3
 replace eB := Ext.trans eB e1_3
 have hfho1_3 : Fresh h1_2.size [h1_2.size] := Fresh.one _
 have hlho1_3 := OS.lt ho1_3
 try simp -implicitDefEqProofs (disch := first | decide | assumption | omega) only [go_sem, R1.an (OS.rd ho1_2) sl55, RdS.an (OS.rd ho1_3) sl56, wrap_id, sbs, Int.toNat_zero, bF0, bC3 (OS.isSl ho1_2) (OS.isSl ho1_3)]
 refine op_bs0 sz59 O1 ?_
 intro v1_5 h1_5 ho1_5 e1_5
 replace ho1_2 := OS.ext ho1_2 e1_5
 replace ho1_3 := OS.ext ho1_3 e1_5
 replace hb0_0 := BoxAt.ext hb0_0 e1_5
 replace hb0_1 := BoxAt.ext hb0_1 e1_5
 have := Ext.size e1_5
 replace eB := Ext.trans eB e1_5
 have hfho1_5 : Fresh h1_3.size [h1_3.size] := Fresh.one _
 have hlho1_5 := OS.lt ho1_5
 try simp -implicitDefEqProofs (disch := first | decide | assumption | omega) only [go_sem, R1.an (OS.rd ho1_2) sl55, RdS.an (OS.rd ho1_3) sl56, RdS.an (OS.rd ho1_5) sl59, wrap_id, sbs, Int.toNat_zero, bF0, bC3 (OS.isSl ho1_2) (OS.isSl ho1_3), bF2 (OS.isSl ho1_2) (OS.isSl ho1_3) (OS.isSl ho1_5)]
 refine op_alloc (cs := #[.int .i64 0, .slice none 0 0, .slice none 0 0, .slice none 0 0]) (by kernel_rfl) ?_
 intro h1_7 e1_7 hb1_7 z1_7
 replace ho1_2 := OS.ext ho1_2 e1_7
 replace ho1_3 := OS.ext ho1_3 e1_7
 replace ho1_5 := OS.ext ho1_5 e1_7
 replace hb0_0 := BoxAt.ext hb0_0 e1_7
 replace hb0_1 := BoxAt.ext hb0_1 e1_7
 have := Ext.size e1_7
 replace eB := Ext.trans eB e1_7
 have hfhb1_7 : Fresh h1_5.size [h1_5.size] := Fresh.one _
 have hlhb1_7 := one_lt (show h1_5.size < h1_7.size by omega)
 try simp -implicitDefEqProofs (disch := first | decide | assumption | omega) only [go_sem, BoxAt.cell hb0_1, wrap_id, sbs, Int.toNat_zero, bF0, bC3 (OS.isSl ho1_2) (OS.isSl ho1_3), bF2 (OS.isSl ho1_2) (OS.isSl ho1_3) (OS.isSl ho1_5)]
 refine op_storeB (cs' := #[.int .i64 (X.p), v1_2, v1_3, v1_5]) st61 hb1_7 rfl rfl rfl (by simp) (allOne_mem (l := [.int .i64 (X.p), v1_2, v1_3, v1_5]) ⟨rfl, (OS.one ho1_2).1, (OS.one ho1_3).1, (OS.one ho1_5).1, trivial⟩) rfl ?_
 intro h1_8 hb1_7 c1_8
 replace ho1_2 := OS.chg ho1_2 c1_8 (apart_lt hlho1_2 hfhb1_7 (by omega))
 replace ho1_3 := OS.chg ho1_3 c1_8 (apart_lt hlho1_3 hfhb1_7 (by omega))
 replace ho1_5 := OS.chg ho1_5 c1_8 (apart_lt hlho1_5 hfhb1_7 (by omega))
 replace hb0_0 := BoxAt.chgA hb0_0 c1_8 (apart_lt hlhb0_0 hfhb1_7 (by omega))
 replace hb0_1 := BoxAt.chgA hb0_1 c1_8 (apart_lt hlhb0_1 hfhb1_7 (by omega))
 have := c1_8.size
 replace eB := Ext.then eB c1_8 (ge_of hfhb1_7 (by omega))
 try simp -implicitDefEqProofs (disch := first | decide | assumption | omega) only [go_sem, BoxAt.cell hb0_1, wrap_id, sbs, Int.toNat_zero, bF0, bC3 (OS.isSl ho1_2) (OS.isSl ho1_3), bF2 (OS.isSl ho1_2) (OS.isSl ho1_3) (OS.isSl ho1_5)]
 refine hK _ _ ?_
 clear hK K
 refine den_seq ?_
 refine den_seq ?_
 refine den_region TTok ?_
 intro K hK
 simp -implicitDefEqProofs (disch := first | decide | assumption | omega) only [go_sem, wrap_id, sbs, Int.toNat_zero, bF0]
 refine hK _ _ ?_
 clear hK K
 refine den_block ?_
 refine den_sel [4, 1, 2, 3] ?_
 intro env_1
 simp only [go_sem]
 refine den_loopS (σ := Nat × Value × List Nat × Value × List Nat × Value × List Nat) (fun st_ => [(4, .int .i64 (st_.1 : Int))]) (fun st_ H => (st_.1 ≤ fcT X) ∧ (O1 H st_.2.1 (fcD X st_.1) st_.2.2.1) ∧ (Fresh (h0_1.size) st_.2.2.1) ∧ (Sub ([h0_1.size] ++ ([h1_2.size] ++ ([h1_3.size] ++ ([h1_5.size])))) h1_8.size st_.2.2.1) ∧ (O3 H st_.2.2.2.1 (fcM X (st_.1 - 1)) st_.2.2.2.2.1) ∧ (Fresh (h1_2.size) st_.2.2.2.2.1) ∧ (Sub ([h0_1.size] ++ ([h1_2.size] ++ ([h1_3.size] ++ ([h1_5.size])))) h1_8.size st_.2.2.2.2.1) ∧ (O2 H st_.2.2.2.2.2.1 (fcL X st_.1) st_.2.2.2.2.2.2) ∧ (Fresh (h1_3.size) st_.2.2.2.2.2.2) ∧ (Sub ([h0_1.size] ++ ([h1_2.size] ++ ([h1_3.size] ++ ([h1_5.size])))) h1_8.size st_.2.2.2.2.2.2) ∧ (BoxAt H (h1_5.size) #[.int .i64 (X.p), st_.2.1, st_.2.2.2.1, st_.2.2.2.2.2.1] 61) ∧ (Apart st_.2.2.1 st_.2.2.2.2.1) ∧ (Apart st_.2.2.1 st_.2.2.2.2.2.2) ∧ (Apart st_.2.2.1 [h1_5.size]) ∧ (Apart st_.2.2.2.2.1 st_.2.2.2.2.2.2) ∧ (Apart st_.2.2.2.2.1 [h1_5.size]) ∧ (Apart st_.2.2.2.2.2.2 [h1_5.size]) ∧ (Chg ([h0_1.size] ++ ([h1_2.size] ++ ([h1_3.size] ++ ([h1_5.size])))) h1_8 H)) (fun st_ => fcT X - st_.1) (0, v1_2, [h0_1.size], v1_3, [h1_2.size], v1_5, [h1_3.size]) ?_ ?_
 ·exact ⟨by first | (simp; done) | (dsimp only; omega) | (simp; omega), by show O1 _ _ [] _; exact ho1_2, hfho1_2, (Sub.left Sub.refl), by show O3 _ _ [] _; exact ho1_3, hfho1_3, (Sub.right (Sub.left Sub.refl)), by show O2 _ _ [] _; exact ho1_5, hfho1_5, (Sub.right (Sub.right (Sub.left Sub.refl))), by simpa using hb1_7, (apart_lt hlho1_2 hfho1_3 (by omega)), (apart_lt hlho1_2 hfho1_5 (by omega)), (apart_lt hlho1_2 hfhb1_7 (by omega)), (apart_lt hlho1_3 hfho1_5 (by omega)), (apart_lt hlho1_3 hfhb1_7 (by omega)), (apart_lt hlho1_5 hfhb1_7 (by omega)), Chg.refl _ _⟩
 ·rintro ⟨n, vhD, fphD, vhM, fphM, vhV, fphV⟩ h4 ee3 ⟨hi0, hD, hfhD, sbhD, hM, hfhM, sbhM, hV, hfhV, sbhV, hbx3, ap_hD_hM, ap_hD_hV, ap_hD_hbx3, ap_hM_hV, ap_hM_hbx3, ap_hV_hbx3, cL2⟩
  dsimp only at hi0 hD hfhD sbhD hM hfhM sbhM hV hfhV sbhV hbx3 ap_hD_hM ap_hD_hV ap_hD_hbx3 ap_hM_hV ap_hM_hbx3 ap_hV_hbx3 cL2
  replace hb0_0 := BoxAt.chgA hb0_0 cL2 (Apart.app (apart_lt hlhb0_0 hfho1_2 (by omega)) (Apart.app (apart_lt hlhb0_0 hfho1_3 (by omega)) (Apart.app (apart_lt hlhb0_0 hfho1_5 (by omega)) (apart_lt hlhb0_0 hfhb1_7 (by omega)))))
  replace hb0_1 := BoxAt.chgA hb0_1 cL2 (Apart.app (apart_lt hlhb0_1 hfho1_2 (by omega)) (Apart.app (apart_lt hlhb0_1 hfho1_3 (by omega)) (Apart.app (apart_lt hlhb0_1 hfho1_5 (by omega)) (apart_lt hlhb0_1 hfhb1_7 (by omega)))))
  have := cL2.size
  replace eB := Ext.then eB cL2 (ge_app (ge_of hfho1_2 (by omega)) (ge_app (ge_of hfho1_3 (by omega)) (ge_app (ge_of hfho1_5 (by omega)) (ge_of hfhb1_7 (by omega)))))
  have hlhD := OS.lt hD
  have hlhM := OS.lt hM
  have hlhV := OS.lt hV
  have hfhbx3 := hfhb1_7
  have hlhbx3 := hlhb1_7
  simp only [List.cons_append, List.nil_append]
  have hlD0 := fcD_len X n
  have hlM0 := fcM_len X (n - 1)
  have hlV0 := fcL_len X n
  have hkl := mbP_len hs (n : Int)
  refine den_seq ?_
  refine den_seq ?_
  refine den_region TTok ?_
  intro K hK
  simp -implicitDefEqProofs (disch := first | decide | assumption | omega) only [go_sem, Int.toNat_zero, fa34_1, fa34_2, ia22, ld2, BoxAt.dgs hb0_0, wrap_id, sbs, Int.toNat_zero, bF0]
  refine hK _ _ ?_
  clear hK K
  refine den_cond rfl (fun c0 => ?_) (fun c0 => ?_)
  ·try simp only [ddA] at c0
   refine den_skip ?_
   refine den_seq ?_
   refine den_block ?_
   refine den_seq ?_
   refine den_region TTok ?_
   intro K hK
   simp -implicitDefEqProofs (disch := first | decide | assumption | omega) only [go_sem, BoxAt.dgs hb0_0, wrap_id, sbs, Int.toNat_zero, bF0]
   try simp -implicitDefEqProofs (disch := first | decide | assumption | omega) only [go_sem, BoxAt.cell hb0_1, wrap_id, sbs, Int.toNat_zero, bF0]
   refine CallA.mono (sMb_ok  X (n : Int) _  (by omega)) ?_
   intro vw5_2_0 h5_2
   rintro ⟨zvw5_2_0, fw5_2_0, rfl, how5_2_0, hfw5_2_0, e5_2⟩
   replace hD := OS.ext hD e5_2
   replace hM := OS.ext hM e5_2
   replace hV := OS.ext hV e5_2
   replace hb0_0 := BoxAt.ext hb0_0 e5_2
   replace hb0_1 := BoxAt.ext hb0_1 e5_2
   replace hbx3 := BoxAt.ext hbx3 e5_2
   have := Ext.size e5_2
   replace eB := Ext.trans eB e5_2
   replace cL2 := Chg.stepE cL2 e5_2
   have hlhow5_2_0 := OS.lt how5_2_0
   try simp -implicitDefEqProofs (disch := first | decide | assumption | omega) only [go_sem, BoxAt.cell hb0_1, wrap_id, sbs, Int.toNat_zero, bF0]
   refine op_bs0 sz55 OI ?_
   intro v5_3 h5_3 ho5_3 e5_3
   replace hD := OS.ext hD e5_3
   replace hM := OS.ext hM e5_3
   replace hV := OS.ext hV e5_3
   replace how5_2_0 := OS.ext how5_2_0 e5_3
   replace hb0_0 := BoxAt.ext hb0_0 e5_3
   replace hb0_1 := BoxAt.ext hb0_1 e5_3
   replace hbx3 := BoxAt.ext hbx3 e5_3
   have := Ext.size e5_3
   replace eB := Ext.trans eB e5_3
   replace cL2 := Chg.stepE cL2 e5_3
   have hfho5_3 : Fresh h5_2.size [h5_2.size] := Fresh.one _
   have hlho5_3 := OS.lt ho5_3
   try simp -implicitDefEqProofs (disch := first | decide | assumption | omega) only [go_sem, BoxAt.cell hb0_1, wrap_id, sbs, Int.toNat_zero, bF0]
   refine op_bs0 sz59 O1 ?_
   intro v5_4 h5_4 ho5_4 e5_4
   replace hD := OS.ext hD e5_4
   replace hM := OS.ext hM e5_4
   replace hV := OS.ext hV e5_4
   replace how5_2_0 := OS.ext how5_2_0 e5_4
   replace ho5_3 := OS.ext ho5_3 e5_4
   replace hb0_0 := BoxAt.ext hb0_0 e5_4
   replace hb0_1 := BoxAt.ext hb0_1 e5_4
   replace hbx3 := BoxAt.ext hbx3 e5_4
   have := Ext.size e5_4
   replace eB := Ext.trans eB e5_4
   replace cL2 := Chg.stepE cL2 e5_4
   have hfho5_4 : Fresh h5_3.size [h5_3.size] := Fresh.one _
   have hlho5_4 := OS.lt ho5_4
   try simp -implicitDefEqProofs (disch := first | decide | assumption | omega) only [go_sem, R1.an (OS.rd how5_2_0) sl55, R1.an (OS.rd ho5_3) sl55, RdS.an (OS.rd ho5_4) sl59, wrap_id, sbs, Int.toNat_zero, bF0]
   refine hK _ _ ?_
   clear hK K
   refine den_seq ?_
   refine den_seq ?_
   refine den_region TTok ?_
   intro K hK
   simp -implicitDefEqProofs (disch := first | decide | assumption | omega) only [go_sem, wrap_id, sbs, Int.toNat_zero, bF0]
   refine hK _ _ ?_
   clear hK K
   refine den_block ?_
   refine den_sel [6, 7, 8, 1, 2, 3, 4, 5] ?_
   intro env_5
   simp only [go_sem]
   refine den_loopS (σ := Nat × Value × List Nat × Value × List Nat) (fun st_ => [(6, st_.2.1), (7, st_.2.2.2.1), (8, .int .i64 (st_.1 : Int))]) (fun st_ H => (st_.1 ≤ (mbP X (n : Int)).length) ∧ (O1 H st_.2.1 (((mbP X (n : Int)).take st_.1).map (fun z : Int => X.lev z.toNat)) st_.2.2.1) ∧ (Fresh (h5_2.size) st_.2.2.1) ∧ (Sub ([h5_2.size] ++ ([h5_3.size])) h5_4.size st_.2.2.1) ∧ (O2 H st_.2.2.2.1 (((mbP X (n : Int)).take st_.1).map (fun z : Int => vcP X ((n : Int) - 1) (X.dif z.toNat))) st_.2.2.2.2) ∧ (Fresh (h5_3.size) st_.2.2.2.2) ∧ (Sub ([h5_2.size] ++ ([h5_3.size])) h5_4.size st_.2.2.2.2) ∧ (Apart st_.2.2.1 st_.2.2.2.2) ∧ (Chg ([h5_2.size] ++ ([h5_3.size])) h5_4 H)) (fun st_ => (mbP X (n : Int)).length - st_.1) (0, v5_3, [h5_2.size], v5_4, [h5_3.size]) ?_ ?_
   ·exact ⟨by first | (simp; done) | (dsimp only; omega) | (simp; omega), by simpa using ho5_3, hfho5_3, (Sub.left Sub.refl), by simpa using ho5_4, hfho5_4, (Sub.right Sub.refl), (apart_lt hlho5_3 hfho5_4 (by omega)), Chg.refl _ _⟩
   ·rintro ⟨i, vhA, fphA, vhR, fphR⟩ h8 ee7 ⟨hi0, hA, hfhA, sbhA, hR, hfhR, sbhR, ap_hA_hR, cL6⟩
    dsimp only at hi0 hA hfhA sbhA hR hfhR sbhR ap_hA_hR cL6
    replace hD := OS.chg hD cL6 (Apart.app (apart_lt hlhD hfho5_3 (by omega)) (apart_lt hlhD hfho5_4 (by omega)))
    replace hM := OS.chg hM cL6 (Apart.app (apart_lt hlhM hfho5_3 (by omega)) (apart_lt hlhM hfho5_4 (by omega)))
    replace hV := OS.chg hV cL6 (Apart.app (apart_lt hlhV hfho5_3 (by omega)) (apart_lt hlhV hfho5_4 (by omega)))
    replace how5_2_0 := OS.chg how5_2_0 cL6 (Apart.app (apart_lt hlhow5_2_0 hfho5_3 (by omega)) (apart_lt hlhow5_2_0 hfho5_4 (by omega)))
    replace hb0_0 := BoxAt.chgA hb0_0 cL6 (Apart.app (apart_lt hlhb0_0 hfho5_3 (by omega)) (apart_lt hlhb0_0 hfho5_4 (by omega)))
    replace hb0_1 := BoxAt.chgA hb0_1 cL6 (Apart.app (apart_lt hlhb0_1 hfho5_3 (by omega)) (apart_lt hlhb0_1 hfho5_4 (by omega)))
    replace hbx3 := BoxAt.chgA hbx3 cL6 (Apart.app (apart_lt hlhbx3 hfho5_3 (by omega)) (apart_lt hlhbx3 hfho5_4 (by omega)))
    have := cL6.size
    replace eB := Ext.then eB cL6 (ge_app (ge_of hfho5_3 (by omega)) (ge_of hfho5_4 (by omega)))
    replace cL2 := Chg.step cL2 cL6 (Sub.app (Sub.fresh hfho5_3 (by omega)) (Sub.fresh hfho5_4 (by omega)))
    have hlhA := OS.lt hA
    have hlhR := OS.lt hR
    simp only [List.cons_append, List.nil_append]
    refine den_seq ?_
    refine den_seq ?_
    refine den_region TTok ?_
    intro K hK
    simp -implicitDefEqProofs (disch := first | decide | assumption | omega) only [go_sem, R1.an (OS.rd how5_2_0) sl55, wrap_id, sbs, Int.toNat_zero, bF0]
    refine hK _ _ ?_
    clear hK K
    refine den_cond rfl (fun c1 => ?_) (fun c1 => ?_)
    ·try simp only [ddA] at c1
     refine den_skip ?_
     refine den_seq ?_
     refine den_block ?_
     refine den_seq ?_
     have hat := mb_at (X := X) (n := (n : Int)) (k := i) (by omega)
     have hlb := (hfm.row ((mbP X (n : Int)).getD i 0).toNat (by omega)).lev
     have hmt : (((mbP X (n : Int)).take i).map (fun z : Int => X.lev z.toNat)).length ≤ 8 := by rw [List.length_map, List.length_take]; omega
     refine den_region TTok ?_
     intro K hK
     simp -implicitDefEqProofs (disch := first | decide | assumption | omega) only [go_sem, Int.toNat_zero, fa34_3, ia22, ld2, R1.an (OS.rd how5_2_0) sl55, R1.an (OS.rd hA) sl55, BoxAt.dgs hb0_0, wrap_id, sbs, Int.toNat_zero, bF0]
     refine op_bs1 sz55 rfl rfl ?_
     try simp -implicitDefEqProofs (disch := first | decide | assumption | omega) only [go_sem, BoxAt.cell hb0_1, wrap_id, sbs, Int.toNat_zero, bF0]
     refine op_append1 sz55 hA hfhA.nodup ⟨rfl, rfl⟩ List.nodup_nil (Apart.nil _) (by first | omega | (simp; omega)) rfl rfl ?_
     intro v9_9 h9_9 fp9_9 ho9_9 hn9_9 hs9_9 c9_9
     have hsz9_9 := c9_9.size
     have hfho9_9 : Fresh h5_2.size fp9_9 := Fresh.appd hfhA (Fresh.nil h8.size) (by omega) (by omega) hn9_9 hs9_9
     have sb9 : Sub ([h5_2.size] ++ ([h5_3.size])) h5_4.size fp9_9 := Sub.grow sbhA Sub.nil (by omega) hs9_9
     replace hD := OS.chg hD c9_9 (apart_lt hlhD hfhA (by omega))
     replace hM := OS.chg hM c9_9 (apart_lt hlhM hfhA (by omega))
     replace hV := OS.chg hV c9_9 (apart_lt hlhV hfhA (by omega))
     replace how5_2_0 := OS.chg how5_2_0 c9_9 (apart_lt hlhow5_2_0 hfhA (by omega))
     replace hR := OS.chg hR c9_9 (Apart.symm ap_hA_hR)
     replace hb0_0 := BoxAt.chgA hb0_0 c9_9 (apart_lt hlhb0_0 hfhA (by omega))
     replace hb0_1 := BoxAt.chgA hb0_1 c9_9 (apart_lt hlhb0_1 hfhA (by omega))
     replace hbx3 := BoxAt.chgA hbx3 c9_9 (apart_lt hlhbx3 hfhA (by omega))
     have := c9_9.size
     replace eB := Ext.then eB c9_9 (ge_of hfhA (by omega))
     replace cL2 := Chg.step cL2 c9_9 (Sub.fresh hfhA (by omega))
     replace cL6 := Chg.step cL6 c9_9 sbhA
     have ap10 : Apart fphR fp9_9 := Apart.grow hlhR (by omega) (Apart.symm ap_hA_hR) (Apart.nil _) hs9_9
     have hlho9_9 := OS.lt ho9_9
     try simp -implicitDefEqProofs (disch := first | decide | assumption | omega) only [go_sem, R1.an (OS.rd ho9_9) sl55, wrap_id, sbs, Int.toNat_zero, bF0]
     refine hK _ _ ?_
     clear hK K
     have hmt2 : (((mbP X (n : Int)).take i).map (fun z : Int => vcP X ((n : Int) - 1) (X.dif z.toNat))).length ≤ 8 := by rw [List.length_map, List.length_take]; omega
     refine den_draw TTok mixed [13] [(0, true), (1, true), (2, true), (3, true), (4, true), (5, true), (6, true), (7, true), (8, true), (9, true), (10, true), (11, false), (12, false), (13, false), (14, true)] (by kernel_rfl) ?_
     intro K hK
     simp -implicitDefEqProofs (disch := first | decide | assumption | omega) only [go_sem, Int.toNat_zero, fa34_4, ia31, ld2, R1.an (OS.rd how5_2_0) sl55, RdS.an (OS.rd hR) sl59, BoxAt.dgs hb0_0, wrap_id, sbs, Int.toNat_zero, bF0]
     try simp -implicitDefEqProofs (disch := first | decide | assumption | omega) only [go_sem, BoxAt.cell hb0_1, wrap_id, sbs, Int.toNat_zero, bF0]
     refine CallA.mono (sVc_ok  X ((n : Int) - (1 : Int)) (X.dif (((mbP X (n : Int)).getD i 0)).toNat) _  (by omega) (by first | assumption | exact e8_by _ | exact By.z8 | exact hBd _ | exact hBt _ _ | exact tmJ_by (by omega) (tmI_by (by omega) _) _ | exact timesP_by (by omega) | exact dfI_by (by omega) _ | exact plusN_by (by omega) (timesP_by (by omega)) | exact dfI_by (by omega) 8)) ?_
     intro vw10_11_0 h10_11
     rintro ⟨zvw10_11_0, fw10_11_0, rfl, how10_11_0, hfw10_11_0, e10_11⟩
     replace hD := OS.ext hD e10_11
     replace hM := OS.ext hM e10_11
     replace hV := OS.ext hV e10_11
     replace how5_2_0 := OS.ext how5_2_0 e10_11
     replace hR := OS.ext hR e10_11
     replace ho9_9 := OS.ext ho9_9 e10_11
     replace hb0_0 := BoxAt.ext hb0_0 e10_11
     replace hb0_1 := BoxAt.ext hb0_1 e10_11
     replace hbx3 := BoxAt.ext hbx3 e10_11
     have := Ext.size e10_11
     replace eB := Ext.trans eB e10_11
     replace cL2 := Chg.stepE cL2 e10_11
     replace cL6 := Chg.stepE cL6 e10_11
     have hlhow10_11_0 := OS.lt how10_11_0
     try simp (disch := decide) only [outv_some, outv_none, put_puts]
     refine plK_pres (Ext.pres e10_11) ?_
     try simp -implicitDefEqProofs (disch := first | decide | assumption | omega) only [go_sem, BoxAt.cell hb0_1, wrap_id, sbs, Int.toNat_zero, bF0]
     refine op_bs1 sz59 rfl (OS.one how10_11_0).2 ?_
     try simp (disch := decide) only [outv_some, outv_none, put_puts]
     refine plK_pres (Ext.pres (Ext.push _ _)) ?_
     try simp -implicitDefEqProofs (disch := first | decide | assumption | omega) only [go_sem, BoxAt.cell hb0_1, wrap_id, sbs, Int.toNat_zero, bF0]
     refine op_append1 sz59 hR hfhR.nodup how10_11_0 hfw10_11_0.nodup (apart_lt hlhR hfw10_11_0 (by omega)) (by first | omega | (simp; omega)) rfl rfl ?_
     intro v10_13 h10_13 fp10_13 ho10_13 hn10_13 hs10_13 c10_13
     have hsz10_13 := c10_13.size
     have hfho10_13 : Fresh h5_3.size fp10_13 := Fresh.appd hfhR hfw10_11_0 (by omega) (by omega) hn10_13 hs10_13
     have sb11 : Sub ([h5_2.size] ++ ([h5_3.size])) h5_4.size fp10_13 := Sub.grow sbhR (Sub.fresh hfw10_11_0 (by omega)) (by omega) hs10_13
     replace hD := OS.chg hD c10_13 (apart_lt hlhD hfhR (by omega))
     replace hM := OS.chg hM c10_13 (apart_lt hlhM hfhR (by omega))
     replace hV := OS.chg hV c10_13 (apart_lt hlhV hfhR (by omega))
     replace how5_2_0 := OS.chg how5_2_0 c10_13 (apart_lt hlhow5_2_0 hfhR (by omega))
     replace ho9_9 := OS.chg ho9_9 c10_13 (Apart.symm ap10)
     replace hb0_0 := BoxAt.chgA hb0_0 c10_13 (apart_lt hlhb0_0 hfhR (by omega))
     replace hb0_1 := BoxAt.chgA hb0_1 c10_13 (apart_lt hlhb0_1 hfhR (by omega))
     replace hbx3 := BoxAt.chgA hbx3 c10_13 (apart_lt hlhbx3 hfhR (by omega))
     have := c10_13.size
     replace eB := Ext.then eB c10_13 (ge_of hfhR (by omega))
     replace cL2 := Chg.step cL2 c10_13 (Sub.fresh hfhR (by omega))
     replace cL6 := Chg.step cL6 c10_13 sbhR
     have ap12 : Apart fp9_9 fp10_13 := Apart.grow hlho9_9 (by omega) (Apart.symm ap10) (apart_lt hlho9_9 hfw10_11_0 (by omega)) hs10_13
     have hlho10_13 := OS.lt ho10_13
     try simp (disch := decide) only [outv_some, outv_none, put_puts]
     refine plK_last (by decide) ?_
     try simp -implicitDefEqProofs (disch := first | decide | assumption | omega) only [go_sem, RdS.an (OS.rd ho10_13) sl59, wrap_id, sbs, Int.toNat_zero, bF0]
     refine hK _ _ ?_
     clear hK K
     refine den_blk ?_
     refine den_region TTok ?_
     intro K hK
     simp -implicitDefEqProofs (disch := first | decide | assumption | omega) only [go_sem, wrap_id, sbs, Int.toNat_zero, bF0]
     refine hK _ _ ?_
     clear hK K
     refine den_stop ?_
     rw [map_takeL (f := fun z : Int => X.lev z.toNat) (d := 0) (by omega)] at ho9_9
     rw [map_takeL (f := fun z : Int => vcP X ((n : Int) - 1) (X.dif z.toNat)) (d := 0) (by omega)] at ho10_13
     exact ⟨(i + 1, v9_9, fp9_9, v10_13, fp10_13), by simp [HasL, puts_at], ⟨by first | omega | (dsimp only; omega), ho9_9, hfho9_9, sb9, ho10_13, hfho10_13, sb11, ap12, cL6⟩, by first | omega | (dsimp only; omega)⟩
    ·try simp only [ddA] at c1
     refine den_exit ?_
     refine denX_code ?_
     refine denX_stop ?_
     refine denX_hit ?_
     refine den_seq ?_
     refine den_region TTok ?_
     intro K hK
     simp -implicitDefEqProofs (disch := first | decide | assumption | omega) only [go_sem, fa58_1, fa61_0, ld55, R1.an (OS.rd hD) sl55, RdS.an (OS.rd hM) sl56, RdS.an (OS.rd hV) sl59, R1.an (OS.rd how5_2_0) sl55, BoxAt.cell hbx3, wrap_id, sbs, Int.toNat_zero, bF0]
     refine op_bs1 sz55 rfl rfl ?_
     try simp -implicitDefEqProofs (disch := first | decide | assumption | omega) only [go_sem, BoxAt.cell hb0_1, wrap_id, sbs, Int.toNat_zero, bF0]
     refine op_append1 sz55 hD hfhD.nodup ⟨rfl, rfl⟩ List.nodup_nil (Apart.nil _) (by first | omega | (simp; omega)) rfl rfl ?_
     intro v11_6 h11_6 fp11_6 ho11_6 hn11_6 hs11_6 c11_6
     have hsz11_6 := c11_6.size
     have hfho11_6 : Fresh h0_1.size fp11_6 := Fresh.appd hfhD (Fresh.nil h8.size) (by omega) (by omega) hn11_6 hs11_6
     have sb13 : Sub ([h0_1.size] ++ ([h1_2.size] ++ ([h1_3.size] ++ ([h1_5.size])))) h1_8.size fp11_6 := Sub.grow sbhD Sub.nil (by omega) hs11_6
     replace hM := OS.chg hM c11_6 (Apart.symm ap_hD_hM)
     replace hV := OS.chg hV c11_6 (Apart.symm ap_hD_hV)
     replace how5_2_0 := OS.chg how5_2_0 c11_6 (apart_gt hfw5_2_0 hlhD (by omega))
     replace hA := OS.chg hA c11_6 (apart_gt hfhA hlhD (by omega))
     replace hR := OS.chg hR c11_6 (apart_gt hfhR hlhD (by omega))
     replace hb0_0 := BoxAt.chgA hb0_0 c11_6 (apart_lt hlhb0_0 hfhD (by omega))
     replace hb0_1 := BoxAt.chgA hb0_1 c11_6 (apart_lt hlhb0_1 hfhD (by omega))
     replace hbx3 := BoxAt.chgA hbx3 c11_6 (Apart.symm ap_hD_hbx3)
     have := c11_6.size
     replace eB := Ext.then eB c11_6 (ge_of hfhD (by omega))
     replace cL2 := Chg.step cL2 c11_6 sbhD
     have ap14 : Apart fphM fp11_6 := Apart.grow hlhM (by omega) (Apart.symm ap_hD_hM) (Apart.nil _) hs11_6
     have ap15 : Apart fphV fp11_6 := Apart.grow hlhV (by omega) (Apart.symm ap_hD_hV) (Apart.nil _) hs11_6
     have ap16 : Apart fw5_2_0 fp11_6 := Apart.grow hlhow5_2_0 (by omega) (apart_gt hfw5_2_0 hlhD (by omega)) (Apart.nil _) hs11_6
     have ap17 : Apart fphA fp11_6 := Apart.grow hlhA (by omega) (apart_gt hfhA hlhD (by omega)) (Apart.nil _) hs11_6
     have ap18 : Apart fphR fp11_6 := Apart.grow hlhR (by omega) (apart_gt hfhR hlhD (by omega)) (Apart.nil _) hs11_6
     have ap19 : Apart [h1_5.size] fp11_6 := Apart.grow hlhbx3 (by omega) (Apart.symm ap_hD_hbx3) (Apart.nil _) hs11_6
     have hlho11_6 := OS.lt ho11_6
     try simp -implicitDefEqProofs (disch := first | decide | assumption | omega) only [go_sem, fa58_1, fa61_0, RdS.an (OS.rd hM) sl56, RdS.an (OS.rd hV) sl59, BoxAt.cell hbx3, wrap_id, sbs, Int.toNat_zero, bF0]
     refine op_storeB (cs' := #[.int .i64 (X.p), v11_6, vhM, vhV]) st55 hbx3 rfl (OS.one ho11_6).2 rfl (by simp) (allOne_mem (l := [v11_6]) ⟨(OS.one ho11_6).1, trivial⟩) rfl ?_
     intro h11_9 hbx3 c11_9
     replace hM := OS.chg hM c11_9 ap_hM_hbx3
     replace hV := OS.chg hV c11_9 ap_hV_hbx3
     replace how5_2_0 := OS.chg how5_2_0 c11_9 (apart_gt hfw5_2_0 hlhbx3 (by omega))
     replace hA := OS.chg hA c11_9 (apart_gt hfhA hlhbx3 (by omega))
     replace hR := OS.chg hR c11_9 (apart_gt hfhR hlhbx3 (by omega))
     replace ho11_6 := OS.chg ho11_6 c11_9 (Apart.symm ap19)
     replace hb0_0 := BoxAt.chgA hb0_0 c11_9 (apart_lt hlhb0_0 hfhbx3 (by omega))
     replace hb0_1 := BoxAt.chgA hb0_1 c11_9 (apart_lt hlhb0_1 hfhbx3 (by omega))
     have := c11_9.size
     replace eB := Ext.then eB c11_9 (ge_of hfhbx3 (by omega))
     replace cL2 := Chg.step cL2 c11_9 (Sub.right (Sub.right (Sub.right Sub.refl)))
     try simp -implicitDefEqProofs (disch := first | decide | assumption | omega) only [go_sem, BoxAt.cell hb0_1, wrap_id, sbs, Int.toNat_zero, bF0]
     refine hK _ _ ?_
     clear hK K
     refine den_seq ?_
     refine den_region TTok ?_
     intro K hK
     simp -implicitDefEqProofs (disch := first | decide | assumption | omega) only [go_sem, fa61_1, ld59, RdS.an (OS.rd hM) sl56, RdS.an (OS.rd hV) sl59, R1.an (OS.rd hA) sl55, R1.an (OS.rd ho11_6) sl55, BoxAt.cell hbx3, wrap_id, sbs, Int.toNat_zero, bF0]
     refine op_bs1 sz59 rfl (OS.one hA).2 ?_
     try simp -implicitDefEqProofs (disch := first | decide | assumption | omega) only [go_sem, BoxAt.cell hb0_1, wrap_id, sbs, Int.toNat_zero, bF0]
     refine op_append1 sz59 hV hfhV.nodup hA hfhA.nodup (apart_lt hlhV hfhA (by omega)) (by first | omega | (simp; omega)) rfl rfl ?_
     intro v12_4 h12_4 fp12_4 ho12_4 hn12_4 hs12_4 c12_4
     have hsz12_4 := c12_4.size
     have hfho12_4 : Fresh h1_3.size fp12_4 := Fresh.appd hfhV hfhA (by omega) (by omega) hn12_4 hs12_4
     have sb20 : Sub ([h0_1.size] ++ ([h1_2.size] ++ ([h1_3.size] ++ ([h1_5.size])))) h1_8.size fp12_4 := Sub.grow sbhV (Sub.fresh hfhA (by omega)) (by omega) hs12_4
     replace hM := OS.chg hM c12_4 ap_hM_hV
     replace hR := OS.chg hR c12_4 (apart_gt hfhR hlhV (by omega))
     replace ho11_6 := OS.chg ho11_6 c12_4 (Apart.symm ap15)
     replace hb0_0 := BoxAt.chgA hb0_0 c12_4 (apart_lt hlhb0_0 hfhV (by omega))
     replace hb0_1 := BoxAt.chgA hb0_1 c12_4 (apart_lt hlhb0_1 hfhV (by omega))
     replace hbx3 := BoxAt.chgA hbx3 c12_4 (Apart.symm ap_hV_hbx3)
     have := c12_4.size
     replace eB := Ext.then eB c12_4 (ge_of hfhV (by omega))
     replace cL2 := Chg.step cL2 c12_4 sbhV
     have ap21 : Apart fphM fp12_4 := Apart.grow hlhM (by omega) ap_hM_hV (apart_lt hlhM hfhA (by omega)) hs12_4
     have ap22 : Apart fphR fp12_4 := Apart.grow hlhR (by omega) (apart_gt hfhR hlhV (by omega)) (Apart.symm ap_hA_hR) hs12_4
     have ap23 : Apart fp11_6 fp12_4 := Apart.grow hlho11_6 (by omega) (Apart.symm ap15) (Apart.symm ap17) hs12_4
     have ap24 : Apart [h1_5.size] fp12_4 := Apart.grow hlhbx3 (by omega) (Apart.symm ap_hV_hbx3) (apart_lt hlhbx3 hfhA (by omega)) hs12_4
     have hlho12_4 := OS.lt ho12_4
     try simp -implicitDefEqProofs (disch := first | decide | assumption | omega) only [go_sem, fa61_1, RdS.an (OS.rd hM) sl56, R1.an (OS.rd ho11_6) sl55, BoxAt.cell hbx3, wrap_id, sbs, Int.toNat_zero, bF0]
     refine op_storeB (cs' := #[.int .i64 (X.p), v11_6, vhM, v12_4]) st59 hbx3 rfl (OS.one ho12_4).2 rfl (by simp) (allOne_mem (l := [v12_4]) ⟨(OS.one ho12_4).1, trivial⟩) rfl ?_
     intro h12_6 hbx3 c12_6
     replace hM := OS.chg hM c12_6 ap_hM_hbx3
     replace hR := OS.chg hR c12_6 (apart_gt hfhR hlhbx3 (by omega))
     replace ho11_6 := OS.chg ho11_6 c12_6 (Apart.symm ap19)
     replace ho12_4 := OS.chg ho12_4 c12_6 (Apart.symm ap24)
     replace hb0_0 := BoxAt.chgA hb0_0 c12_6 (apart_lt hlhb0_0 hfhbx3 (by omega))
     replace hb0_1 := BoxAt.chgA hb0_1 c12_6 (apart_lt hlhb0_1 hfhbx3 (by omega))
     have := c12_6.size
     replace eB := Ext.then eB c12_6 (ge_of hfhbx3 (by omega))
     replace cL2 := Chg.step cL2 c12_6 (Sub.right (Sub.right (Sub.right Sub.refl)))
     try simp -implicitDefEqProofs (disch := first | decide | assumption | omega) only [go_sem, BoxAt.cell hb0_1, wrap_id, sbs, Int.toNat_zero, bF0]
     refine hK _ _ ?_
     clear hK K
     refine den_seq ?_
     refine den_region TTok ?_
     intro K hK
     simp -implicitDefEqProofs (disch := first | decide | assumption | omega) only [go_sem, wrap_id, sbs, Int.toNat_zero, bF0]
     refine hK _ _ ?_
     clear hK K
     refine den_cond rfl (fun c2 => ?_) (fun c2 => ?_)
     ·try simp only [ddA] at c2
      refine den_region TTok ?_
      intro K hK
      simp -implicitDefEqProofs (disch := first | decide | assumption | omega) only [go_sem, fa58_2, fa61_0, ld56, RdS.an (OS.rd hM) sl56, RdS.an (OS.rd hR) sl59, R1.an (OS.rd ho11_6) sl55, RdS.an (OS.rd ho12_4) sl59, BoxAt.cell hbx3, wrap_id, sbs, Int.toNat_zero, bF0]
      refine op_bs1 sz56 rfl (OS.one hR).2 ?_
      try simp -implicitDefEqProofs (disch := first | decide | assumption | omega) only [go_sem, BoxAt.cell hb0_1, wrap_id, sbs, Int.toNat_zero, bF0]
      refine op_append1 sz56 hM hfhM.nodup hR hfhR.nodup (apart_lt hlhM hfhR (by omega)) (by first | omega | (simp; omega)) rfl rfl ?_
      intro v14_5 h14_5 fp14_5 ho14_5 hn14_5 hs14_5 c14_5
      have hsz14_5 := c14_5.size
      have hfho14_5 : Fresh h1_2.size fp14_5 := Fresh.appd hfhM hfhR (by omega) (by omega) hn14_5 hs14_5
      have sb25 : Sub ([h0_1.size] ++ ([h1_2.size] ++ ([h1_3.size] ++ ([h1_5.size])))) h1_8.size fp14_5 := Sub.grow sbhM (Sub.fresh hfhR (by omega)) (by omega) hs14_5
      replace ho11_6 := OS.chg ho11_6 c14_5 (Apart.symm ap14)
      replace ho12_4 := OS.chg ho12_4 c14_5 (Apart.symm ap21)
      replace hb0_0 := BoxAt.chgA hb0_0 c14_5 (apart_lt hlhb0_0 hfhM (by omega))
      replace hb0_1 := BoxAt.chgA hb0_1 c14_5 (apart_lt hlhb0_1 hfhM (by omega))
      replace hbx3 := BoxAt.chgA hbx3 c14_5 (Apart.symm ap_hM_hbx3)
      have := c14_5.size
      replace eB := Ext.then eB c14_5 (ge_of hfhM (by omega))
      replace cL2 := Chg.step cL2 c14_5 sbhM
      have ap26 : Apart fp11_6 fp14_5 := Apart.grow hlho11_6 (by omega) (Apart.symm ap14) (Apart.symm ap18) hs14_5
      have ap27 : Apart fp12_4 fp14_5 := Apart.grow hlho12_4 (by omega) (Apart.symm ap21) (Apart.symm ap22) hs14_5
      have ap28 : Apart [h1_5.size] fp14_5 := Apart.grow hlhbx3 (by omega) (Apart.symm ap_hM_hbx3) (apart_lt hlhbx3 hfhR (by omega)) hs14_5
      have hlho14_5 := OS.lt ho14_5
      try simp -implicitDefEqProofs (disch := first | decide | assumption | omega) only [go_sem, fa58_2, fa61_0, R1.an (OS.rd ho11_6) sl55, RdS.an (OS.rd ho12_4) sl59, BoxAt.cell hbx3, wrap_id, sbs, Int.toNat_zero, bF0]
      refine op_storeB (cs' := #[.int .i64 (X.p), v11_6, v14_5, v12_4]) st56 hbx3 rfl (OS.one ho14_5).2 rfl (by simp) (allOne_mem (l := [v14_5]) ⟨(OS.one ho14_5).1, trivial⟩) rfl ?_
      intro h14_8 hbx3 c14_8
      replace ho11_6 := OS.chg ho11_6 c14_8 (Apart.symm ap19)
      replace ho12_4 := OS.chg ho12_4 c14_8 (Apart.symm ap24)
      replace ho14_5 := OS.chg ho14_5 c14_8 (Apart.symm ap28)
      replace hb0_0 := BoxAt.chgA hb0_0 c14_8 (apart_lt hlhb0_0 hfhbx3 (by omega))
      replace hb0_1 := BoxAt.chgA hb0_1 c14_8 (apart_lt hlhb0_1 hfhbx3 (by omega))
      have := c14_8.size
      replace eB := Ext.then eB c14_8 (ge_of hfhbx3 (by omega))
      replace cL2 := Chg.step cL2 c14_8 (Sub.right (Sub.right (Sub.right Sub.refl)))
      try simp -implicitDefEqProofs (disch := first | decide | assumption | omega) only [go_sem, BoxAt.cell hb0_1, wrap_id, sbs, Int.toNat_zero, bF0]
      refine hK _ _ ?_
      clear hK K
      refine den_blk ?_
      refine den_region TTok ?_
      intro K hK
      simp -implicitDefEqProofs (disch := first | decide | assumption | omega) only [go_sem, wrap_id, sbs, Int.toNat_zero, bF0]
      refine hK _ _ ?_
      clear hK K
      refine den_stop ?_
      rw [fcD_step] at ho11_6
      rw [map_takeE (by omega), show (mbP X (n : Int)).map (fun z : Int => X.lev z.toNat) = fcV X (n : Int) from rfl, fcL_step] at ho12_4
      first | rw [map_takeE (by omega), show ((mbP X (n : Int)).map (fun z : Int => vcP X ((n : Int) - 1) (X.dif z.toNat))) = fcR X (n : Int) from rfl, fcM_step (by omega)] at ho14_5 | rw [show n - 1 = n + 1 - 1 by omega] at ho14_5
      exact ⟨(n + 1, v11_6, fp11_6, v14_5, fp14_5, v12_4, fp12_4), by simp [HasL, puts_at], ⟨by first | omega | (dsimp only; omega), ho11_6, hfho11_6, sb13, ho14_5, hfho14_5, sb25, ho12_4, hfho12_4, sb20, hbx3, ap26, ap23, (Apart.symm ap19), (Apart.symm ap27), (Apart.symm ap28), (Apart.symm ap24), cL2⟩, by first | omega | (dsimp only; omega)⟩
     ·try simp only [ddA] at c2
      refine den_skip ?_
      refine den_blk ?_
      refine den_region TTok ?_
      intro K hK
      simp -implicitDefEqProofs (disch := first | decide | assumption | omega) only [go_sem, wrap_id, sbs, Int.toNat_zero, bF0]
      refine hK _ _ ?_
      clear hK K
      refine den_stop ?_
      rw [fcD_step] at ho11_6
      rw [map_takeE (by omega), show (mbP X (n : Int)).map (fun z : Int => X.lev z.toNat) = fcV X (n : Int) from rfl, fcL_step] at ho12_4
      first | rw [map_takeE (by omega), show ((mbP X (n : Int)).map (fun z : Int => vcP X ((n : Int) - 1) (X.dif z.toNat))) = fcR X (n : Int) from rfl, fcM_step (by omega)] at hM | rw [show n - 1 = n + 1 - 1 by omega] at hM
      exact ⟨(n + 1, v11_6, fp11_6, vhM, fphM, v12_4, fp12_4), by simp [HasL, puts_at], ⟨by first | omega | (dsimp only; omega), ho11_6, hfho11_6, sb13, hM, hfhM, sbhM, ho12_4, hfho12_4, sb20, hbx3, (Apart.symm ap14), ap23, (Apart.symm ap19), ap21, ap_hM_hbx3, (Apart.symm ap24), cL2⟩, by first | omega | (dsimp only; omega)⟩
  ·try simp only [ddA] at c0
   refine den_exit ?_
   refine denX_code ?_
   refine denX_stop ?_
   refine denX_hit ?_
   refine den_seq ?_
   refine den_region TTok ?_
   intro K hK
   simp -implicitDefEqProofs (disch := first | decide | assumption | omega) only [go_sem, ld61, R1.an (OS.rd hD) sl55, RdS.an (OS.rd hM) sl56, RdS.an (OS.rd hV) sl59, BoxAt.cell hbx3, wrap_id, sbs, Int.toNat_zero, bF0]
   refine op_storeB (cs' := #[.int .i64 (X.p), vhD, vhM, vhV]) st61 hb0_1 rfl rfl rfl (by simp) (allOne_mem (l := [.int .i64 (X.p), vhD, vhM, vhV]) ⟨rfl, (OS.one hD).1, (OS.one hM).1, (OS.one hV).1, trivial⟩) rfl ?_
   intro h15_1 hb0_1 c15_1
   replace hD := OS.chg hD c15_1 (apart_gt hfhD hlhb0_1 (by omega))
   replace hM := OS.chg hM c15_1 (apart_gt hfhM hlhb0_1 (by omega))
   replace hV := OS.chg hV c15_1 (apart_gt hfhV hlhb0_1 (by omega))
   replace hbx3 := BoxAt.chgA hbx3 c15_1 (apart_gt hfhbx3 hlhb0_1 (by omega))
   have := c15_1.size
   replace eB := Ext.then eB c15_1 (ge_of hfhb0_1 (by omega))
   try simp -implicitDefEqProofs (disch := first | decide | assumption | omega) only [go_sem, R1.an (OS.rd hD) sl55, RdS.an (OS.rd hM) sl56, RdS.an (OS.rd hV) sl59, BoxAt.cell hb0_1, wrap_id, sbs, Int.toNat_zero, bF0]
   refine hK _ _ ?_
   clear hK K
   refine den_ret ?_
   simp -implicitDefEqProofs (disch := first | decide | assumption | omega) only [go_sem, R1.an (OS.rd hD) sl55, RdS.an (OS.rd hM) sl56, RdS.an (OS.rd hV) sl59, BoxAt.cell hb0_1, wrap_id, sbs, Int.toNat_zero, bF0, resP_c1, ld61]
   have hD := hD
   have hM := hM
   have hV := hV
   rw [show n = fcT X by omega] at hD hM hV
   exact ⟨_, _, _, _, _, _, rfl, hD, hM, hV, Fresh.two (lo := h.size) hfhD (Fresh.two (lo := h.size) hfhM hfhV ap_hM_hV (by omega) (by omega)) (Apart.app ap_hD_hM ap_hD_hV) (by omega) (by omega), eB⟩
end Go.Proofs.Ytacajcjibhifmaa

namespace Go.Proofs.Ytacajcjibhifmaa
open Go
/-- The maps while they are filled: up to a place. -/
def flV (X : Dg) (k r c : Nat) : Int := X.dif ((mbP X ((k : Int) + 1)).getD r 0).toNat ((mbP X (k : Int)).getD c 0).toNat
def flM (X : Dg) (L n r c : Nat) : M3 := (List.range L).map fun k : Nat => (List.range (mbP X ((k : Int) + 1)).length).map fun i : Nat => (List.range (mbP X (k : Int)).length).map fun j : Nat => if k + 1 < n ∨ (k + 1 = n ∧ (i < r ∨ (i = r ∧ j < c))) then flV X k i j else 0
def flA (X : Dg) : Nat → Nat := fun k => (mbP X ((k : Int) + 1)).length
def flB (X : Dg) : Nat → Nat := fun k => (mbP X (k : Int)).length
theorem flM_sh (X : Dg) (L n r c : Nat) : Sh L (flA X) (flB X) (flM X L n r c) := by
 refine ⟨by simp [flM], fun k hk => ?_, fun k i hk hi => ?_⟩
 ·rw [flM, getD_map_range _ hk, List.length_map, List.length_range]; rfl
 ·have hi' : i < (mbP X ((k : Int) + 1)).length := hi
  rw [flM, getD_map_range _ hk, getD_map_range _ hi', List.length_map, List.length_range]; rfl
theorem flM_get (X : Dg) {L n r c k i j : Nat} (hk : k < L) (hi : i < flA X k) (hj : j < flB X k) : get3 (flM X L n r c) k i j = if k + 1 < n ∨ (k + 1 = n ∧ (i < r ∨ (i = r ∧ j < c))) then flV X k i j else 0 := by
 have hi' : i < (mbP X ((k : Int) + 1)).length := hi
 rw [get3, flM, getD_map_range _ hk, getD_map_range _ hi']
 exact getD_map_range (α := Int) (fun j => if k + 1 < n ∨ (k + 1 = n ∧ (i < r ∨ (i = r ∧ j < c))) then flV X k i j else 0) hj
theorem flM_same (X : Dg) {L n r c n' r' c' : Nat} (h : ∀ k i j, k < L → i < flA X k → j < flB X k → ((k + 1 < n ∨ (k + 1 = n ∧ (i < r ∨ (i = r ∧ j < c)))) ↔ (k + 1 < n' ∨ (k + 1 = n' ∧ (i < r' ∨ (i = r' ∧ j < c')))))) : flM X L n r c = flM X L n' r' c' :=
 (flM_sh X L n r c).ext (flM_sh X L n' r' c') fun k i j h1 h2 h3 => by
  rw [flM_get X h1 h2 h3, flM_get X h1 h2 h3]
  by_cases q : k + 1 < n ∨ (k + 1 = n ∧ (i < r ∨ (i = r ∧ j < c)))
  ·rw [if_pos q, if_pos ((h k i j h1 h2 h3).1 q)]
  ·rw [if_neg q, if_neg (fun z => q ((h k i j h1 h2 h3).2 z))]
theorem flM_row (X : Dg) {L n r : Nat} (hn : 1 ≤ n) : flM X L n r (flB X (n - 1)) = flM X L n (r + 1) 0 := flM_same X fun k i j _ _ h3 => by
 by_cases e : k + 1 = n
 ·have e2 : n - 1 = k := by omega
  rw [e2]; omega
 ·omega
theorem flM_tab (X : Dg) {L n : Nat} (hn : 1 ≤ n) : flM X L n (flA X (n - 1)) 0 = flM X L (n + 1) 0 0 := flM_same X fun k i j _ h2 _ => by
 by_cases e : k + 1 = n
 ·have e2 : n - 1 = k := by omega
  rw [e2]; omega
 ·omega
theorem flM_end (X : Dg) (L : Nat) : flM X L (L + 1) 0 0 = fcM X L := by
 have hs : Sh L (flA X) (flB X) (fcM X L) := by
  refine ⟨fcM_len X L, fun k hk => ?_, fun k i hk hi => ?_⟩
  ·rw [fcM, getD_map_range _ hk, fcR, List.length_map]; rfl
  ·have hi' : i < (mbP X ((k : Int) + 1)).length := hi
   rw [fcM, getD_map_range _ hk, fcR, List.getD_eq_getElem?_getD, List.getElem?_map, List.getElem?_eq_getElem hi']
   simp only [Option.map_some, Option.getD_some, vcP, List.length_map, Int.add_sub_cancel]; rfl
 refine (flM_sh X L _ 0 0).ext hs fun k i j h1 h2 h3 => ?_
 have hi' : i < (mbP X ((k : Int) + 1)).length := h2
 have hj' : j < (mbP X (k : Int)).length := h3
 have hj'' : j < (mbP X ((k : Int) + 1 - 1)).length := by rw [Int.add_sub_cancel]; exact h3
 rw [flM_get X h1 h2 h3, if_pos (.inl (by omega)), get3, fcM, getD_map_range _ h1, fcR]
 simp only [flV, vcP, List.getD_eq_getElem?_getD, List.getElem?_map, List.getElem?_eq_getElem hi', List.getElem?_eq_getElem hj'', List.getElem?_eq_getElem hj', Option.map_some, Option.getD_some, Int.add_sub_cancel]
theorem flM_0 (X : Dg) (T : Nat) : zblk (fcD X T) (T - 1) = flM X (T - 1) 1 0 0 := by
 have hd : ∀ k, k < T → ((fcD X T).getD k 0).toNat = (mbP X (k : Int)).length := fun k hk => by
  rw [show (fcD X T).getD k 0 = ((mbP X (k : Int)).length : Int) from getD_map_range (α := Int) (fun n : Nat => ((mbP X (n : Int)).length : Int)) hk, Int.toNat_natCast]
 have hz := zblk_sh (fcD X T) (T - 1)
 have hs : Sh (T - 1) (flA X) (flB X) (zblk (fcD X T) (T - 1)) := ⟨hz.len, fun k hk => by rw [hz.rows k hk, hd (k + 1) (by omega)]; rfl, fun k i hk hi => by rw [hz.cols k i hk (by rw [hd (k + 1) (by omega)]; exact hi), hd k (by omega)]; rfl⟩
 refine hs.ext (flM_sh X (T - 1) 1 0 0) fun k i j h1 h2 h3 => ?_
 rw [flM_get X h1 h2 h3, if_neg (by omega), zblk_get _ _ h1 (by rw [hd (k + 1) (by omega)]; exact h2) (by rw [hd k (by omega)]; exact h3)]
theorem flV_bnd {X : Dg} (hB : DgB X) (hf : IsFm X) {k r c : Nat} (hr : r < flA X k) (hc : c < flB X k) : 0 ≤ flV X k r c ∧ flV X k r c < X.p := by
 have h1 := mb_at (X := X) (n := (k : Int) + 1) hr
 have h2 := mb_at (X := X) (n := (k : Int)) hc
 have h3 := hf.s
 exact ⟨(hB.dif _ _).1, ((hf.row ((mbP X ((k : Int) + 1)).getD r 0).toNat (by omega)).el _ (by omega)).1⟩
theorem flM_in3 {X : Dg} (hB : DgB X) (hf : IsFm X) (L n r c : Nat) : In3 X.p L (flA X) (flB X) (flM X L n r c) := fun k i j h1 h2 h3 => by
 have hp := isP_two hf.p
 rw [flM_get X h1 h2 h3]
 split
 ·exact flV_bnd hB hf h2 h3
 ·omega
theorem flM_step {X : Dg} (hB : DgB X) (hf : IsFm X) {L k r c : Nat} (hk : k < L) (hr : r < flA X k) (hc : c < flB X k) : upd3 X.p (flM X L (k + 1) r c) k r c (flV X k r c) = flM X L (k + 1) r (c + 1) := by
 have hp := isP_two hf.p
 have hu : ∀ u ∈ [(((k, r, c), flV X k r c) : Upd)], InU L (flA X) (flB X) u := fun u hu => by
  rw [List.mem_singleton.1 hu]; exact ⟨hk, hr, hc⟩
 have hs := flM_sh X L (k + 1) r c
 have e : upd3 X.p (flM X L (k + 1) r c) k r c (flV X k r c) = applyU X.p (flM X L (k + 1) r c) [((k, r, c), flV X k r c)] := rfl
 rw [e]
 refine (applyU_sh hs hu).ext (flM_sh X L (k + 1) r (c + 1)) fun k' i j h1 h2 h3 => ?_
 have hb := flV_bnd hB hf hr hc
 rw [applyU_get (by omega) h1 h2 h3 hs (flM_in3 hB hf L (k + 1) r c) hu, flM_get X h1 h2 h3, flM_get X h1 h2 h3, sumT, sumT, Int.add_zero]
 by_cases q : (k, r, c) = (k', i, j)
 ·injection q with q1 q2
  injection q2 with q2 q3
  subst q1; subst q2; subst q3
  rw [if_pos rfl, if_neg (by omega), if_pos (by omega), Int.zero_add, Int.emod_eq_of_lt hb.1 hb.2]
 ·have q' : ¬ (k = k' ∧ r = i ∧ c = j) := fun z => q (by rw [z.1, z.2.1, z.2.2])
  rw [if_neg q, Int.add_zero]
  have hb2 := flV_bnd hB hf h2 h3
  by_cases w : k' + 1 < k + 1 ∨ (k' + 1 = k + 1 ∧ (i < r ∨ (i = r ∧ j < c)))
  ·rw [if_pos w, if_pos (by omega), Int.emod_eq_of_lt hb2.1 hb2.2]
  ·rw [if_neg w, if_neg (by omega), Int.zero_emod]
end Go.Proofs.Ytacajcjibhifmaa

namespace Go.Proofs.Ytacajcjibhifmaa
open Go
theorem lenS (A : Option Addr) (n c : Nat) : lenV TT 55 (.slice A n c) = some (.int .i64 n) := by kernel_rfl
theorem OS.vl {α : Type} {e : TypeId} {E : Heap → Value → α → List Nat → Prop} {h : Heap} {v : Value} {xs : List α} {fp : List Nat} (ho : OS e E h v xs fp) : ∃ A c, v = .slice A xs.length c := by
 rcases ho with ⟨rfl, rfl, _⟩ | ⟨b, c, cur, fps, rfl, r⟩
 ·exact ⟨_, _, rfl⟩
 ·exact ⟨_, _, r.val⟩

set_option maxRecDepth 100000 in
theorem sizeV_ok (v : Value) (n : Nat) (h : Heap) (hv : ∃ A c, v = .slice A n c) (hn : (n : Int) ≤ 9223372036854775807) : CallA Try.prog 90 #[v] h fun v' h' => v' = .int .i64 (n : Int) ∧ Ext h h' := by
 obtain ⟨A, c, rfl⟩ := hv
 refine callA_intro TTok (args := [_]) Try.func90 (by kernel_rfl) rfl 5 rfl (by simp) [.tmp 2] rfl ?_
 simp only [idxs, Nat.reduceAdd]
 refine den_seq ?_
 refine den_region TTok ?_
 intro K hK
 simp -implicitDefEqProofs (disch := first | decide | assumption | omega) only [go_sem, wrap_id, lenS]
 refine hK _ _ ?_
 clear hK K
 refine den_seq ?_
 refine den_region TTok ?_
 intro K hK
 simp -implicitDefEqProofs (disch := first | decide | assumption | omega) only [go_sem, wrap_id, lenS]
 refine hK _ _ ?_
 clear hK K
 refine den_ret ?_
 simp (disch := decide) only [resP_1, puts_same, puts_ne]
 exact ⟨by first | rfl | trivial, (Ext.refl _)⟩
end Go.Proofs.Ytacajcjibhifmaa

namespace Go.Proofs.Ytacajcjibhifmaa
open Go
set_option maxRecDepth 100000 in
set_option maxHeartbeats 4000000 in
theorem iFc_ok (X : Dg) (h : Heap)  (hB : DgB X) (hfm : IsFm X) : CallA Try.prog 72 #[.agg (dgA X)] h fun v' h' => ∃ wd0 wm0 wv0 fd0 fm0 fv0, v' = .agg #[.int .i64 (fcP X).c.p, wd0, wm0, wv0] ∧ O1 h' wd0 (fcP X).c.dims fd0 ∧ O3 h' wm0 (fcP X).c.maps fm0 ∧ O2 h' wv0 (fcP X).lv fv0 ∧ Fresh h.size (fd0 ++ (fm0 ++ fv0)) ∧ Ext h h' := by
 have hBd := hB.dif
 have hs := hfm.s
 have htop := (hfm.row (X.s - 1).toNat (by omega)).deg
 have hT : (fcT X : Int) = X.deg (X.s - 1).toNat + 1 := by unfold fcT; omega
 have hpb := isP_bnd hfm.p
 refine callA_intro TTok (args := [_]) Try.func72 (by kernel_rfl) rfl 101 rfl (by simp) [.cell 2 61] rfl ?_
 simp only [idxs, Nat.reduceAdd]
 refine den_seq ?_
 refine den_region TTok ?_
 intro K hK
 simp -implicitDefEqProofs (disch := first | decide | assumption | omega) only [go_sem, wrap_id, sbs, Int.toNat_zero, bF0]
 refine op_box (cs := dgA X) rfl ?_
 intro h0_0 e0_0 hb0_0 z0_0
 have := Ext.size e0_0
 have eB := e0_0
 have hfhb0_0 : Fresh h.size [h.size] := Fresh.one _
 have hlhb0_0 := one_lt (show h.size < h0_0.size by omega)
 try simp -implicitDefEqProofs (disch := first | decide | assumption | omega) only [go_sem, wrap_id, sbs, Int.toNat_zero, bF0]
 refine op_alloc (cs := #[.int .i64 0, .slice none 0 0, .slice none 0 0, .slice none 0 0]) (by kernel_rfl) ?_
 intro h0_1 e0_1 hb0_1 z0_1
 replace hb0_0 := BoxAt.ext hb0_0 e0_1
 have := Ext.size e0_1
 replace eB := Ext.trans eB e0_1
 have hfhb0_1 : Fresh h0_0.size [h0_0.size] := Fresh.one _
 have hlhb0_1 := one_lt (show h0_0.size < h0_1.size by omega)
 try simp -implicitDefEqProofs (disch := first | decide | assumption | omega) only [go_sem, BoxAt.cell hb0_1, wrap_id, sbs, Int.toNat_zero, bF0]
 refine hK _ _ ?_
 clear hK K
 refine den_seq ?_
 refine den_region TTok ?_
 intro K hK
 simp -implicitDefEqProofs (disch := first | decide | assumption | omega) only [go_sem, wrap_id, sbs, Int.toNat_zero, bF0]
 refine op_bs0 sz55 OI ?_
 intro v1_1 h1_1 ho1_1 e1_1
 replace hb0_0 := BoxAt.ext hb0_0 e1_1
 replace hb0_1 := BoxAt.ext hb0_1 e1_1
 have := Ext.size e1_1
 replace eB := Ext.trans eB e1_1
 have hfho1_1 : Fresh h0_1.size [h0_1.size] := Fresh.one _
 have hlho1_1 := OS.lt ho1_1
 try simp -implicitDefEqProofs (disch := first | decide | assumption | omega) only [go_sem, BoxAt.cell hb0_1, wrap_id, sbs, Int.toNat_zero, bF0]
 refine op_alloc (cs := #[.int .i64 0, .slice none 0 0, .slice none 0 0, .slice none 0 0]) (by kernel_rfl) ?_
 intro h1_2 e1_2 hb1_2 z1_2
 replace ho1_1 := OS.ext ho1_1 e1_2
 replace hb0_0 := BoxAt.ext hb0_0 e1_2
 replace hb0_1 := BoxAt.ext hb0_1 e1_2
 have := Ext.size e1_2
 replace eB := Ext.trans eB e1_2
 have hfhb1_2 : Fresh h1_1.size [h1_1.size] := Fresh.one _
 have hlhb1_2 := one_lt (show h1_1.size < h1_2.size by omega)
 try simp -implicitDefEqProofs (disch := first | decide | assumption | omega) only [go_sem, BoxAt.cell hb0_1, wrap_id, sbs, Int.toNat_zero, bF0]
 refine op_storeB (cs' := #[.int .i64 ((0 : Int)), .slice none 0 0, .slice none 0 0, .slice none 0 0]) st61 hb1_2 rfl rfl rfl (by simp) (allOne_mem (l := [.int .i64 ((0 : Int)), .slice none 0 0, .slice none 0 0, .slice none 0 0]) ⟨rfl, rfl, rfl, rfl, trivial⟩) rfl ?_
 intro h1_3 hb1_2 c1_3
 replace ho1_1 := OS.chg ho1_1 c1_3 (apart_lt hlho1_1 hfhb1_2 (by omega))
 replace hb0_0 := BoxAt.chgA hb0_0 c1_3 (apart_lt hlhb0_0 hfhb1_2 (by omega))
 replace hb0_1 := BoxAt.chgA hb0_1 c1_3 (apart_lt hlhb0_1 hfhb1_2 (by omega))
 have := c1_3.size
 replace eB := Ext.then eB c1_3 (ge_of hfhb1_2 (by omega))
 try simp -implicitDefEqProofs (disch := first | decide | assumption | omega) only [go_sem, R1.an (OS.rd ho1_1) sl55, wrap_id, sbs, Int.toNat_zero, bF0]
 refine hK _ _ ?_
 clear hK K
 refine den_seq ?_
 refine den_seq ?_
 refine den_region TTok ?_
 intro K hK
 simp -implicitDefEqProofs (disch := first | decide | assumption | omega) only [go_sem, Int.toNat_zero, fa34_1, fa34_2, ia22, ld2, BoxAt.dgs hb0_0, wrap_id, sbs, Int.toNat_zero, bF0]
 refine hK _ _ ?_
 clear hK K
 refine den_block ?_
 have hnil1 : O2 h1_3 (.slice none 0 0) [] [] := OS.nil
 have hfhnil1 : Fresh h1_3.size [] := Fresh.nil _
 have hlhnil1 := OS.lt hnil1
 refine den_sel [4, 23, 1, 2, 3, 22] ?_
 intro env_2
 simp only [go_sem]
 refine den_loopS (σ := Nat × Value × List Nat × Value × List Nat) (fun st_ => [(4, st_.2.2.2.1), (23, .int .i64 (st_.1 : Int))]) (fun st_ H => (st_.1 ≤ fcT X) ∧ (O2 H st_.2.1 (fcL X st_.1) st_.2.2.1) ∧ (Fresh (h1_3.size) st_.2.2.1) ∧ (Sub (([] : List Nat) ++ ([h0_1.size] ++ ([h1_1.size]))) h1_3.size st_.2.2.1) ∧ (O1 H st_.2.2.2.1 (fcD X st_.1) st_.2.2.2.2) ∧ (Fresh (h0_1.size) st_.2.2.2.2) ∧ (Sub (([] : List Nat) ++ ([h0_1.size] ++ ([h1_1.size]))) h1_3.size st_.2.2.2.2) ∧ (BoxAt H (h1_1.size) #[.int .i64 ((0 : Int)), .slice none 0 0, .slice none 0 0, st_.2.1] 61) ∧ (Apart st_.2.2.1 st_.2.2.2.2) ∧ (Apart st_.2.2.1 [h1_1.size]) ∧ (Apart st_.2.2.2.2 [h1_1.size]) ∧ (Chg (([] : List Nat) ++ ([h0_1.size] ++ ([h1_1.size]))) h1_3 H)) (fun st_ => fcT X - st_.1) (0, .slice none 0 0, ([] : List Nat), v1_1, [h0_1.size]) ?_ ?_
 ·exact ⟨by first | (simp; done) | (dsimp only; omega) | (simp; omega), by show O2 _ _ [] _; exact hnil1, hfhnil1, (Sub.left Sub.refl), by show O1 _ _ [] _; exact ho1_1, hfho1_1, (Sub.right (Sub.left Sub.refl)), by simpa using hb1_2, (apart_gt hfhnil1 hlho1_1 (by omega)), (apart_gt hfhnil1 hlhb1_2 (by omega)), (apart_lt hlho1_1 hfhb1_2 (by omega)), Chg.refl _ _⟩
 ·rintro ⟨n, vhV, fphV, vhD, fphD⟩ h5 ee4 ⟨hi0, hV, hfhV, sbhV, hD, hfhD, sbhD, hbx3, ap_hV_hD, ap_hV_hbx3, ap_hD_hbx3, cL3⟩
  dsimp only at hi0 hV hfhV sbhV hD hfhD sbhD hbx3 ap_hV_hD ap_hV_hbx3 ap_hD_hbx3 cL3
  replace hb0_0 := BoxAt.chgA hb0_0 cL3 (Apart.app (apart_lt hlhb0_0 hfhnil1 (by omega)) (Apart.app (apart_lt hlhb0_0 hfho1_1 (by omega)) (apart_lt hlhb0_0 hfhb1_2 (by omega))))
  replace hb0_1 := BoxAt.chgA hb0_1 cL3 (Apart.app (apart_lt hlhb0_1 hfhnil1 (by omega)) (Apart.app (apart_lt hlhb0_1 hfho1_1 (by omega)) (apart_lt hlhb0_1 hfhb1_2 (by omega))))
  have := cL3.size
  replace eB := Ext.then eB cL3 (ge_app (ge_of hfhnil1 (by omega)) (ge_app (ge_of hfho1_1 (by omega)) (ge_of hfhb1_2 (by omega))))
  have hlhV := OS.lt hV
  have hlhD := OS.lt hD
  have hfhbx3 := hfhb1_2
  have hlhbx3 := hlhb1_2
  simp only [List.cons_append, List.nil_append]
  have hlD0 := fcD_len X n
  have hlV0 := fcL_len X n
  have hkl := mbP_len hs (n : Int)
  refine den_seq ?_
  refine den_region TTok ?_
  intro K hK
  simp -implicitDefEqProofs (disch := first | decide | assumption | omega) only [go_sem, wrap_id, sbs, Int.toNat_zero, bF0]
  refine hK _ _ ?_
  clear hK K
  refine den_seq ?_
  refine den_cond rfl (fun c0 => ?_) (fun c0 => ?_)
  ·try simp only [ddA] at c0
   refine den_skip ?_
   refine den_seq ?_
   refine den_block ?_
   refine den_seq ?_
   refine den_region TTok ?_
   intro K hK
   simp -implicitDefEqProofs (disch := first | decide | assumption | omega) only [go_sem, wrap_id, sbs, Int.toNat_zero, bF0]
   refine hK _ _ ?_
   clear hK K
   refine den_seq ?_
   refine den_region TTok ?_
   intro K hK
   simp -implicitDefEqProofs (disch := first | decide | assumption | omega) only [go_sem, BoxAt.cell hb0_1, wrap_id, sbs, Int.toNat_zero, bF0]
   refine op_bs0 sz55 OI ?_
   intro v5_0 h5_0 ho5_0 e5_0
   replace hV := OS.ext hV e5_0
   replace hD := OS.ext hD e5_0
   replace hb0_0 := BoxAt.ext hb0_0 e5_0
   replace hb0_1 := BoxAt.ext hb0_1 e5_0
   replace hbx3 := BoxAt.ext hbx3 e5_0
   have := Ext.size e5_0
   replace eB := Ext.trans eB e5_0
   replace cL3 := Chg.stepE cL3 e5_0
   have hfho5_0 : Fresh h5.size [h5.size] := Fresh.one _
   have hlho5_0 := OS.lt ho5_0
   try simp -implicitDefEqProofs (disch := first | decide | assumption | omega) only [go_sem, R1.an (OS.rd ho5_0) sl55, wrap_id, sbs, Int.toNat_zero, bF0]
   refine hK _ _ ?_
   clear hK K
   refine den_seq ?_
   refine den_seq ?_
   refine den_region TTok ?_
   intro K hK
   simp -implicitDefEqProofs (disch := first | decide | assumption | omega) only [go_sem, BoxAt.dgs hb0_0, wrap_id, sbs, Int.toNat_zero, bF0]
   try simp -implicitDefEqProofs (disch := first | decide | assumption | omega) only [go_sem, BoxAt.cell hb0_1, wrap_id, sbs, Int.toNat_zero, bF0]
   refine CallA.mono (iMb_ok  X (n : Int) _  (by omega)) ?_
   intro vw6_2_0 h6_2
   rintro ⟨zvw6_2_0, fw6_2_0, rfl, how6_2_0, hfw6_2_0, e6_2⟩
   replace hV := OS.ext hV e6_2
   replace hD := OS.ext hD e6_2
   replace ho5_0 := OS.ext ho5_0 e6_2
   replace hb0_0 := BoxAt.ext hb0_0 e6_2
   replace hb0_1 := BoxAt.ext hb0_1 e6_2
   replace hbx3 := BoxAt.ext hbx3 e6_2
   have := Ext.size e6_2
   replace eB := Ext.trans eB e6_2
   replace cL3 := Chg.stepE cL3 e6_2
   have hlhow6_2_0 := OS.lt how6_2_0
   try simp -implicitDefEqProofs (disch := first | decide | assumption | omega) only [go_sem, R1.an (OS.rd how6_2_0) sl55, wrap_id, sbs, Int.toNat_zero, bF0]
   refine hK _ _ ?_
   clear hK K
   refine den_block ?_
   refine den_sel [6, 31, 1, 2, 3, 4, 22, 23, 29, 30] ?_
   intro env_6
   simp only [go_sem]
   refine den_loopS (σ := Nat × Value × List Nat) (fun st_ => [(6, st_.2.1), (31, .int .i64 (st_.1 : Int))]) (fun st_ H => (st_.1 ≤ (mbP X (n : Int)).length) ∧ (O1 H st_.2.1 (((mbP X (n : Int)).take st_.1).map (fun z : Int => X.lev z.toNat)) st_.2.2) ∧ (Fresh (h5.size) st_.2.2) ∧ (Sub [h5.size] h6_2.size st_.2.2) ∧ (Chg [h5.size] h6_2 H)) (fun st_ => (mbP X (n : Int)).length - st_.1) (0, v5_0, [h5.size]) ?_ ?_
   ·exact ⟨by first | (simp; done) | (dsimp only; omega) | (simp; omega), by simpa using ho5_0, hfho5_0, Sub.refl, Chg.refl _ _⟩
   ·rintro ⟨i, vhA, fphA⟩ h9 ee8 ⟨hi0, hA, hfhA, sbhA, cL7⟩
    dsimp only at hi0 hA hfhA sbhA cL7
    replace hV := OS.chg hV cL7 (apart_lt hlhV hfho5_0 (by omega))
    replace hD := OS.chg hD cL7 (apart_lt hlhD hfho5_0 (by omega))
    replace how6_2_0 := OS.chg how6_2_0 cL7 (apart_gt hfw6_2_0 hlho5_0 (by omega))
    replace hb0_0 := BoxAt.chgA hb0_0 cL7 (apart_lt hlhb0_0 hfho5_0 (by omega))
    replace hb0_1 := BoxAt.chgA hb0_1 cL7 (apart_lt hlhb0_1 hfho5_0 (by omega))
    replace hbx3 := BoxAt.chgA hbx3 cL7 (apart_lt hlhbx3 hfho5_0 (by omega))
    have := cL7.size
    replace eB := Ext.then eB cL7 (ge_of hfho5_0 (by omega))
    replace cL3 := Chg.step cL3 cL7 (Sub.fresh hfho5_0 (by omega))
    have ap10 : Apart fw6_2_0 fphA := Apart.sub_ hlhow6_2_0 (by omega) (apart_gt hfw6_2_0 hlho5_0 (by omega)) sbhA
    have hlhA := OS.lt hA
    simp only [List.cons_append, List.nil_append]
    refine den_seq ?_
    refine den_region TTok ?_
    intro K hK
    simp -implicitDefEqProofs (disch := first | decide | assumption | omega) only [go_sem, wrap_id, sbs, Int.toNat_zero, bF0]
    refine hK _ _ ?_
    clear hK K
    refine den_seq ?_
    refine den_cond rfl (fun c1 => ?_) (fun c1 => ?_)
    ·try simp only [ddA] at c1
     refine den_skip ?_
     refine den_seq ?_
     refine den_block ?_
     refine den_seq ?_
     refine den_region TTok ?_
     intro K hK
     simp -implicitDefEqProofs (disch := first | decide | assumption | omega) only [go_sem, ld2, R1.an (OS.rd how6_2_0) sl55, wrap_id, sbs, Int.toNat_zero, bF0]
     refine hK _ _ ?_
     clear hK K
     have hat := mb_at (X := X) (n := (n : Int)) (k := i) (by omega)
     have hmt : (((mbP X (n : Int)).take i).map (fun z : Int => X.lev z.toNat)).length ≤ 8 := by rw [List.length_map, List.length_take]; omega
     refine den_region TTok ?_
     intro K hK
     simp -implicitDefEqProofs (disch := first | decide | assumption | omega) only [go_sem, Int.toNat_zero, fa34_3, ia22, ld2, R1.an (OS.rd hA) sl55, BoxAt.dgs hb0_0, wrap_id, sbs, Int.toNat_zero, bF0]
     refine op_bs1 sz55 rfl rfl ?_
     try simp -implicitDefEqProofs (disch := first | decide | assumption | omega) only [go_sem, BoxAt.cell hb0_1, wrap_id, sbs, Int.toNat_zero, bF0]
     refine op_append1 sz55 hA hfhA.nodup ⟨rfl, rfl⟩ List.nodup_nil (Apart.nil _) (by first | omega | (simp; omega)) rfl rfl ?_
     intro v9_6 h9_6 fp9_6 ho9_6 hn9_6 hs9_6 c9_6
     have hsz9_6 := c9_6.size
     have hfho9_6 : Fresh h5.size fp9_6 := Fresh.appd hfhA (Fresh.nil h9.size) (by omega) (by omega) hn9_6 hs9_6
     have sb11 : Sub [h5.size] h6_2.size fp9_6 := Sub.grow sbhA Sub.nil (by omega) hs9_6
     replace hV := OS.chg hV c9_6 (apart_lt hlhV hfhA (by omega))
     replace hD := OS.chg hD c9_6 (apart_lt hlhD hfhA (by omega))
     replace how6_2_0 := OS.chg how6_2_0 c9_6 ap10
     replace hb0_0 := BoxAt.chgA hb0_0 c9_6 (apart_lt hlhb0_0 hfhA (by omega))
     replace hb0_1 := BoxAt.chgA hb0_1 c9_6 (apart_lt hlhb0_1 hfhA (by omega))
     replace hbx3 := BoxAt.chgA hbx3 c9_6 (apart_lt hlhbx3 hfhA (by omega))
     have := c9_6.size
     replace eB := Ext.then eB c9_6 (ge_of hfhA (by omega))
     replace cL3 := Chg.step cL3 c9_6 (Sub.fresh hfhA (by omega))
     replace cL7 := Chg.step cL7 c9_6 sbhA
     have ap12 : Apart fw6_2_0 fp9_6 := Apart.grow hlhow6_2_0 (by omega) ap10 (Apart.nil _) hs9_6
     have hlho9_6 := OS.lt ho9_6
     try simp -implicitDefEqProofs (disch := first | decide | assumption | omega) only [go_sem, R1.an (OS.rd ho9_6) sl55, wrap_id, sbs, Int.toNat_zero, bF0]
     refine hK _ _ ?_
     clear hK K
     refine den_blk ?_
     refine den_region TTok ?_
     intro K hK
     simp -implicitDefEqProofs (disch := first | decide | assumption | omega) only [go_sem, wrap_id, sbs, Int.toNat_zero, bF0]
     refine hK _ _ ?_
     clear hK K
     refine den_stop ?_
     rw [map_takeL (f := fun z : Int => X.lev z.toNat) (d := 0) (by omega)] at ho9_6
     exact ⟨(i + 1, v9_6, fp9_6), by simp [HasL, puts_at], ⟨by first | omega | (dsimp only; omega), ho9_6, hfho9_6, sb11, cL7⟩, by first | omega | (dsimp only; omega)⟩
    ·try simp only [ddA] at c1
     refine den_exit ?_
     refine denX_code ?_
     refine denX_stop ?_
     refine denX_hit ?_
     have hlvl : (((mbP X (n : Int)).take i).map (fun z : Int => X.lev z.toNat)) = fcV X (n : Int) := map_takeE (by omega)
     have hlv_ : (((mbP X (n : Int)).take i).map (fun z : Int => X.lev z.toNat)).length = (mbP X (n : Int)).length := by rw [hlvl, fcV, List.length_map]
     refine den_region TTok ?_
     intro K hK
     simp -implicitDefEqProofs (disch := first | decide | assumption | omega) only [go_sem, fa61_1, ld59, RdS.an (OS.rd hV) sl59, R1.an (OS.rd hA) sl55, BoxAt.cell hbx3, wrap_id, sbs, Int.toNat_zero, bF0]
     refine op_bs1 sz59 rfl (OS.one hA).2 ?_
     try simp -implicitDefEqProofs (disch := first | decide | assumption | omega) only [go_sem, BoxAt.cell hb0_1, wrap_id, sbs, Int.toNat_zero, bF0]
     refine op_append1 sz59 hV hfhV.nodup hA hfhA.nodup (apart_lt hlhV hfhA (by omega)) (by first | omega | (simp; omega)) rfl rfl ?_
     intro v11_4 h11_4 fp11_4 ho11_4 hn11_4 hs11_4 c11_4
     have hsz11_4 := c11_4.size
     have hfho11_4 : Fresh h1_3.size fp11_4 := Fresh.appd hfhV hfhA (by omega) (by omega) hn11_4 hs11_4
     have sb13 : Sub (([] : List Nat) ++ ([h0_1.size] ++ ([h1_1.size]))) h1_3.size fp11_4 := Sub.grow sbhV (Sub.fresh hfhA (by omega)) (by omega) hs11_4
     replace hD := OS.chg hD c11_4 (Apart.symm ap_hV_hD)
     replace hb0_0 := BoxAt.chgA hb0_0 c11_4 (apart_lt hlhb0_0 hfhV (by omega))
     replace hb0_1 := BoxAt.chgA hb0_1 c11_4 (apart_lt hlhb0_1 hfhV (by omega))
     replace hbx3 := BoxAt.chgA hbx3 c11_4 (Apart.symm ap_hV_hbx3)
     have := c11_4.size
     replace eB := Ext.then eB c11_4 (ge_of hfhV (by omega))
     replace cL3 := Chg.step cL3 c11_4 sbhV
     have ap14 : Apart fphD fp11_4 := Apart.grow hlhD (by omega) (Apart.symm ap_hV_hD) (apart_lt hlhD hfhA (by omega)) hs11_4
     have ap15 : Apart [h1_1.size] fp11_4 := Apart.grow hlhbx3 (by omega) (Apart.symm ap_hV_hbx3) (apart_lt hlhbx3 hfhA (by omega)) hs11_4
     have hlho11_4 := OS.lt ho11_4
     try simp -implicitDefEqProofs (disch := first | decide | assumption | omega) only [go_sem, R1.an (OS.rd hD) sl55, wrap_id, sbs, Int.toNat_zero, bF0]
     try simp -implicitDefEqProofs (disch := first | decide | assumption | omega) only [go_sem, BoxAt.cell hb0_1, wrap_id, sbs, Int.toNat_zero, bF0]
     refine CallA.mono (sizeV_ok _ _ _ (OS.vl hA) (by omega)) ?_
     intro v_ h11_7
     rintro ⟨rfl, e11_7⟩
     replace hD := OS.ext hD e11_7
     replace ho11_4 := OS.ext ho11_4 e11_7
     replace hb0_0 := BoxAt.ext hb0_0 e11_7
     replace hb0_1 := BoxAt.ext hb0_1 e11_7
     replace hbx3 := BoxAt.ext hbx3 e11_7
     have := Ext.size e11_7
     replace eB := Ext.trans eB e11_7
     replace cL3 := Chg.stepE cL3 e11_7
     try simp -implicitDefEqProofs (disch := first | decide | assumption | omega) only [go_sem, BoxAt.cell hb0_1, wrap_id, sbs, Int.toNat_zero, bF0]
     refine op_bs1 sz55 rfl rfl ?_
     try simp -implicitDefEqProofs (disch := first | decide | assumption | omega) only [go_sem, BoxAt.cell hb0_1, wrap_id, sbs, Int.toNat_zero, bF0]
     refine op_append1 sz55 hD hfhD.nodup ⟨rfl, rfl⟩ List.nodup_nil (Apart.nil _) (by first | omega | (simp; omega)) rfl rfl ?_
     intro v11_9 h11_9 fp11_9 ho11_9 hn11_9 hs11_9 c11_9
     have hsz11_9 := c11_9.size
     have hfho11_9 : Fresh h0_1.size fp11_9 := Fresh.appd hfhD (Fresh.nil h11_7.size) (by omega) (by omega) hn11_9 hs11_9
     have sb16 : Sub (([] : List Nat) ++ ([h0_1.size] ++ ([h1_1.size]))) h1_3.size fp11_9 := Sub.grow sbhD Sub.nil (by omega) hs11_9
     replace ho11_4 := OS.chg ho11_4 c11_9 (Apart.symm ap14)
     replace hb0_0 := BoxAt.chgA hb0_0 c11_9 (apart_lt hlhb0_0 hfhD (by omega))
     replace hb0_1 := BoxAt.chgA hb0_1 c11_9 (apart_lt hlhb0_1 hfhD (by omega))
     replace hbx3 := BoxAt.chgA hbx3 c11_9 (Apart.symm ap_hD_hbx3)
     have := c11_9.size
     replace eB := Ext.then eB c11_9 (ge_of hfhD (by omega))
     replace cL3 := Chg.step cL3 c11_9 sbhD
     have ap17 : Apart fp11_4 fp11_9 := Apart.grow hlho11_4 (by omega) (Apart.symm ap14) (Apart.nil _) hs11_9
     have ap18 : Apart [h1_1.size] fp11_9 := Apart.grow hlhbx3 (by omega) (Apart.symm ap_hD_hbx3) (Apart.nil _) hs11_9
     have hlho11_9 := OS.lt ho11_9
     try simp -implicitDefEqProofs (disch := first | decide | assumption | omega) only [go_sem, fa61_1, BoxAt.cell hbx3, wrap_id, sbs, Int.toNat_zero, bF0]
     refine op_storeB (cs' := #[.int .i64 ((0 : Int)), .slice none 0 0, .slice none 0 0, v11_4]) st59 hbx3 rfl (OS.one ho11_4).2 rfl (by simp) (allOne_mem (l := [v11_4]) ⟨(OS.one ho11_4).1, trivial⟩) rfl ?_
     intro h11_11 hbx3 c11_11
     replace ho11_4 := OS.chg ho11_4 c11_11 (Apart.symm ap15)
     replace ho11_9 := OS.chg ho11_9 c11_11 (Apart.symm ap18)
     replace hb0_0 := BoxAt.chgA hb0_0 c11_11 (apart_lt hlhb0_0 hfhbx3 (by omega))
     replace hb0_1 := BoxAt.chgA hb0_1 c11_11 (apart_lt hlhb0_1 hfhbx3 (by omega))
     have := c11_11.size
     replace eB := Ext.then eB c11_11 (ge_of hfhbx3 (by omega))
     replace cL3 := Chg.step cL3 c11_11 (Sub.right (Sub.right Sub.refl))
     try simp -implicitDefEqProofs (disch := first | decide | assumption | omega) only [go_sem, R1.an (OS.rd ho11_9) sl55, wrap_id, sbs, Int.toNat_zero, bF0]
     refine hK _ _ ?_
     clear hK K
     refine den_blk ?_
     refine den_region TTok ?_
     intro K hK
     simp -implicitDefEqProofs (disch := first | decide | assumption | omega) only [go_sem, wrap_id, sbs, Int.toNat_zero, bF0]
     refine hK _ _ ?_
     clear hK K
     refine den_stop ?_
     rw [hlv_, fcD_step] at ho11_9
     rw [hlvl, fcL_step] at ho11_4
     exact ⟨(n + 1, v11_4, fp11_4, v11_9, fp11_9), by simp [HasL, puts_at], ⟨by first | omega | (dsimp only; omega), ho11_4, hfho11_4, sb13, ho11_9, hfho11_9, sb16, hbx3, ap17, (Apart.symm ap15), (Apart.symm ap18), cL3⟩, by first | omega | (dsimp only; omega)⟩
  ·try simp only [ddA] at c0
   refine den_exit ?_
   refine denX_code ?_
   refine denX_stop ?_
   refine denX_hit ?_
   refine den_seq ?_
   rw [show n = fcT X by omega] at hD hV
   have hdl := fcD_len X (fcT X)
   have hbL : (fcD X (fcT X)).length ≤ 16 := by omega
   have hbD : (fcD X (fcT X)).all (fun x => in3 x 0 8) = true := List.all_eq_true.2 fun x hx => by
    obtain ⟨m, _, rfl⟩ := List.mem_map.1 hx
    have := mbP_len hs (m : Int)
    exact in3_iff.2 ⟨by omega, by omega⟩
   refine den_region TTok ?_
   intro K hK
   simp -implicitDefEqProofs (disch := first | decide | assumption | omega) only [go_sem, fa34_0, ld2, R1.an (OS.rd hD) sl55, BoxAt.dgs hb0_0, wrap_id, sbs, Int.toNat_zero, bF0]
   try simp -implicitDefEqProofs (disch := first | decide | assumption | omega) only [go_sem, BoxAt.cell hb0_1, wrap_id, sbs, Int.toNat_zero, bF0]
   refine CallA.mono (blank_ok _ _ (fcD X (fcT X)) _ (OS.rd hD) hbD hbL) ?_
   intro v_ h13_3
   rintro ⟨vw13_3, fw13_3, rfl, how13_3, hfw13_3, e13_3⟩
   replace hV := OS.ext hV e13_3
   replace hD := OS.ext hD e13_3
   replace hb0_0 := BoxAt.ext hb0_0 e13_3
   replace hb0_1 := BoxAt.ext hb0_1 e13_3
   replace hbx3 := BoxAt.ext hbx3 e13_3
   have := Ext.size e13_3
   replace eB := Ext.trans eB e13_3
   have hlhow13_3 := OS.lt how13_3
   try simp -implicitDefEqProofs (disch := first | decide | assumption | omega) only [go_sem, fa61_0, RdS.an (OS.rd hV) sl59, BoxAt.cell hbx3, wrap_id, sbs, Int.toNat_zero, bF0]
   refine op_storeB (cs' := #[.int .i64 (X.p), vhD, vw13_3, vhV]) st58 hbx3 rfl rfl rfl (by simp) (allOne_mem (l := [.int .i64 (X.p), vhD, vw13_3]) ⟨rfl, (OS.one hD).1, (OS.one how13_3).1, trivial⟩) rfl ?_
   intro h13_5 hbx3 c13_5
   replace hV := OS.chg hV c13_5 ap_hV_hbx3
   replace hD := OS.chg hD c13_5 ap_hD_hbx3
   replace how13_3 := OS.chg how13_3 c13_5 (apart_gt hfw13_3 hlhbx3 (by omega))
   replace hb0_0 := BoxAt.chgA hb0_0 c13_5 (apart_lt hlhb0_0 hfhbx3 (by omega))
   replace hb0_1 := BoxAt.chgA hb0_1 c13_5 (apart_lt hlhb0_1 hfhbx3 (by omega))
   have := c13_5.size
   replace eB := Ext.then eB c13_5 (ge_of hfhbx3 (by omega))
   try simp -implicitDefEqProofs (disch := first | decide | assumption | omega) only [go_sem, BoxAt.cell hb0_1, wrap_id, sbs, Int.toNat_zero, bF0]
   refine hK _ _ ?_
   clear hK K
   refine den_seq ?_
   refine den_seq ?_
   refine den_region TTok ?_
   intro K hK
   simp -implicitDefEqProofs (disch := first | decide | assumption | omega) only [go_sem, wrap_id, sbs, Int.toNat_zero, bF0]
   refine hK _ _ ?_
   clear hK K
   refine den_block ?_
   refine den_sel [9, 1, 2, 3, 4] ?_
   intro env_19
   simp only [go_sem]
   refine den_loopS (σ := Nat × Value × List Nat) (fun st_ => [(9, .int .i64 (st_.1 : Int))]) (fun st_ H => (1 ≤ st_.1) ∧ (st_.1 ≤ fcT X) ∧ (O3 H st_.2.1 (flM X (fcT X - 1) st_.1 0 0) st_.2.2) ∧ (Fresh (h5.size) st_.2.2) ∧ (Sub (fw13_3 ++ ([h1_1.size])) h13_5.size st_.2.2) ∧ (BoxAt H (h1_1.size) #[.int .i64 (X.p), vhD, st_.2.1, vhV] 61) ∧ (Apart st_.2.2 [h1_1.size]) ∧ (Chg (fw13_3 ++ ([h1_1.size])) h13_5 H)) (fun st_ => fcT X - st_.1) (1, vw13_3, fw13_3) ?_ ?_
   ·exact ⟨by first | (simp; done) | (dsimp only; omega) | (simp; omega), by first | (simp; done) | (dsimp only; omega) | (simp; omega), by have hq := how13_3; rw [hdl, flM_0] at hq; exact hq, hfw13_3, (Sub.left Sub.refl), by simpa using hbx3, (apart_gt hfw13_3 hlhbx3 (by omega)), Chg.refl _ _⟩
   ·rintro ⟨n, vhM, fphM⟩ h22 ee21 ⟨hi0, hi1, hM, hfhM, sbhM, hbx3, ap_hM_hbx3, cL20⟩
    dsimp only at hi0 hi1 hM hfhM sbhM hbx3 ap_hM_hbx3 cL20
    replace hV := OS.chg hV cL20 (Apart.app (apart_lt hlhV hfw13_3 (by omega)) ap_hV_hbx3)
    replace hD := OS.chg hD cL20 (Apart.app (apart_lt hlhD hfw13_3 (by omega)) ap_hD_hbx3)
    replace hb0_0 := BoxAt.chgA hb0_0 cL20 (Apart.app (apart_lt hlhb0_0 hfw13_3 (by omega)) (apart_lt hlhb0_0 hfhbx3 (by omega)))
    replace hb0_1 := BoxAt.chgA hb0_1 cL20 (Apart.app (apart_lt hlhb0_1 hfw13_3 (by omega)) (apart_lt hlhb0_1 hfhbx3 (by omega)))
    have := cL20.size
    replace eB := Ext.then eB cL20 (ge_app (ge_of hfw13_3 (by omega)) (ge_of hfhbx3 (by omega)))
    have hlhM := OS.lt hM
    have hfhbx3 := hfhbx3
    have hlhbx3 := hlhbx3
    simp only [List.cons_append, List.nil_append]
    have hA1 : flA X (n - 1) = (mbP X (n : Int)).length := by unfold flA; rw [show ((n - 1 : Nat) : Int) + 1 = (n : Int) by omega]
    have hB1 : flB X (n - 1) = (mbP X ((n : Int) - 1)).length := by unfold flB; rw [show ((n - 1 : Nat) : Int) = (n : Int) - 1 by omega]
    have hml1 := mbP_len hs (n : Int)
    have hml2 := mbP_len hs ((n : Int) - 1)
    refine den_seq ?_
    refine den_seq ?_
    refine den_region TTok ?_
    intro K hK
    simp -implicitDefEqProofs (disch := first | decide | assumption | omega) only [go_sem, R1.an (OS.rd hD) sl55, wrap_id, sbs, Int.toNat_zero, bF0]
    try simp -implicitDefEqProofs (disch := first | decide | assumption | omega) only [go_sem, BoxAt.cell hb0_1, wrap_id, sbs, Int.toNat_zero, bF0]
    refine CallA.pure (size1_ok _ _ _ (OS.rd hD)) ?_
    try simp -implicitDefEqProofs (disch := first | decide | assumption | omega) only [go_sem, wrap_id, sbs, Int.toNat_zero, bF0]
    refine hK _ _ ?_
    clear hK K
    refine den_cond rfl (fun c2 => ?_) (fun c2 => ?_)
    ·try simp only [ddA] at c2
     refine den_skip ?_
     refine den_seq ?_
     refine den_block ?_
     refine den_seq ?_
     refine den_region TTok ?_
     intro K hK
     simp -implicitDefEqProofs (disch := first | decide | assumption | omega) only [go_sem, BoxAt.dgs hb0_0, wrap_id, sbs, Int.toNat_zero, bF0]
     try simp -implicitDefEqProofs (disch := first | decide | assumption | omega) only [go_sem, BoxAt.cell hb0_1, wrap_id, sbs, Int.toNat_zero, bF0]
     refine CallA.mono (iMb_ok  X (n : Int) _  (by omega)) ?_
     intro vw17_2_0 h17_2
     rintro ⟨zvw17_2_0, fw17_2_0, rfl, how17_2_0, hfw17_2_0, e17_2⟩
     replace hV := OS.ext hV e17_2
     replace hD := OS.ext hD e17_2
     replace hM := OS.ext hM e17_2
     replace hb0_0 := BoxAt.ext hb0_0 e17_2
     replace hb0_1 := BoxAt.ext hb0_1 e17_2
     replace hbx3 := BoxAt.ext hbx3 e17_2
     have := Ext.size e17_2
     replace eB := Ext.trans eB e17_2
     replace cL20 := Chg.stepE cL20 e17_2
     have hlhow17_2_0 := OS.lt how17_2_0
     try simp -implicitDefEqProofs (disch := first | decide | assumption | omega) only [go_sem, R1.an (OS.rd how17_2_0) sl55, wrap_id, sbs, Int.toNat_zero, bF0]
     refine hK _ _ ?_
     clear hK K
     refine den_block ?_
     refine den_sel [70, 1, 2, 3, 4, 9, 68, 69] ?_
     intro env_23
     simp only [go_sem]
     refine den_loopS (σ := Nat × Value × List Nat) (fun st_ => [(70, .int .i64 (st_.1 : Int))]) (fun st_ H => (st_.1 ≤ (mbP X (n : Int)).length) ∧ (O3 H st_.2.1 (flM X (fcT X - 1) n st_.1 0) st_.2.2) ∧ (Fresh (h5.size) st_.2.2) ∧ (Sub (fphM ++ ([h1_1.size])) h17_2.size st_.2.2) ∧ (BoxAt H (h1_1.size) #[.int .i64 (X.p), vhD, st_.2.1, vhV] 61) ∧ (Apart st_.2.2 [h1_1.size]) ∧ (Chg (fphM ++ ([h1_1.size])) h17_2 H)) (fun st_ => (mbP X (n : Int)).length - st_.1) (0, vhM, fphM) ?_ ?_
     ·exact ⟨by first | (simp; done) | (dsimp only; omega) | (simp; omega), by exact hM, hfhM, (Sub.left Sub.refl), by simpa using hbx3, ap_hM_hbx3, Chg.refl _ _⟩
     ·rintro ⟨r, vhMr, fphMr⟩ h26 ee25 ⟨hi0, hMr, hfhMr, sbhMr, hbx3, ap_hMr_hbx3, cL24⟩
      dsimp only at hi0 hMr hfhMr sbhMr hbx3 ap_hMr_hbx3 cL24
      replace hV := OS.chg hV cL24 (Apart.app (apart_lt hlhV hfhM (by omega)) ap_hV_hbx3)
      replace hD := OS.chg hD cL24 (Apart.app (apart_lt hlhD hfhM (by omega)) ap_hD_hbx3)
      replace how17_2_0 := OS.chg how17_2_0 cL24 (Apart.app (apart_gt hfw17_2_0 hlhM (by omega)) (apart_gt hfw17_2_0 hlhbx3 (by omega)))
      replace hb0_0 := BoxAt.chgA hb0_0 cL24 (Apart.app (apart_lt hlhb0_0 hfhM (by omega)) (apart_lt hlhb0_0 hfhbx3 (by omega)))
      replace hb0_1 := BoxAt.chgA hb0_1 cL24 (Apart.app (apart_lt hlhb0_1 hfhM (by omega)) (apart_lt hlhb0_1 hfhbx3 (by omega)))
      have := cL24.size
      replace eB := Ext.then eB cL24 (ge_app (ge_of hfhM (by omega)) (ge_of hfhbx3 (by omega)))
      replace cL20 := Chg.step cL20 cL24 (Sub.app sbhM (Sub.right Sub.refl))
      have ap27 : Apart fw17_2_0 fphMr := Apart.sub_ hlhow17_2_0 (by omega) (Apart.app (apart_gt hfw17_2_0 hlhM (by omega)) (apart_gt hfw17_2_0 hlhbx3 (by omega))) sbhMr
      have sb28 : Sub (fw13_3 ++ ([h1_1.size])) h13_5.size fphMr := Sub.trans sbhMr (Sub.app sbhM (Sub.right Sub.refl)) (by omega)
      have hlhMr := OS.lt hMr
      have hfhbx3 := hfhbx3
      have hlhbx3 := hlhbx3
      simp only [List.cons_append, List.nil_append]
      refine den_seq ?_
      refine den_region TTok ?_
      intro K hK
      simp -implicitDefEqProofs (disch := first | decide | assumption | omega) only [go_sem, wrap_id, sbs, Int.toNat_zero, bF0]
      refine hK _ _ ?_
      clear hK K
      refine den_seq ?_
      refine den_cond rfl (fun c3 => ?_) (fun c3 => ?_)
      ·try simp only [ddA] at c3
       refine den_skip ?_
       refine den_seq ?_
       refine den_block ?_
       refine den_seq ?_
       have hatr := mb_at (X := X) (n := (n : Int)) (k := r) (by omega)
       refine den_region TTok ?_
       intro K hK
       simp -implicitDefEqProofs (disch := first | decide | assumption | omega) only [go_sem, ld2, R1.an (OS.rd how17_2_0) sl55, wrap_id, sbs, Int.toNat_zero, bF0]
       refine hK _ _ ?_
       clear hK K
       refine den_seq ?_
       refine den_region TTok ?_
       intro K hK
       simp -implicitDefEqProofs (disch := first | decide | assumption | omega) only [go_sem, BoxAt.dgs hb0_0, wrap_id, sbs, Int.toNat_zero, bF0]
       try simp -implicitDefEqProofs (disch := first | decide | assumption | omega) only [go_sem, BoxAt.cell hb0_1, wrap_id, sbs, Int.toNat_zero, bF0]
       refine CallA.mono (iMb_ok  X ((n : Int) - (1 : Int)) _  (by omega)) ?_
       intro vw20_3_0 h20_3
       rintro ⟨zvw20_3_0, fw20_3_0, rfl, how20_3_0, hfw20_3_0, e20_3⟩
       replace hV := OS.ext hV e20_3
       replace hD := OS.ext hD e20_3
       replace how17_2_0 := OS.ext how17_2_0 e20_3
       replace hMr := OS.ext hMr e20_3
       replace hb0_0 := BoxAt.ext hb0_0 e20_3
       replace hb0_1 := BoxAt.ext hb0_1 e20_3
       replace hbx3 := BoxAt.ext hbx3 e20_3
       have := Ext.size e20_3
       replace eB := Ext.trans eB e20_3
       replace cL20 := Chg.stepE cL20 e20_3
       replace cL24 := Chg.stepE cL24 e20_3
       have hlhow20_3_0 := OS.lt how20_3_0
       try simp -implicitDefEqProofs (disch := first | decide | assumption | omega) only [go_sem, R1.an (OS.rd how20_3_0) sl55, wrap_id, sbs, Int.toNat_zero, bF0]
       refine hK _ _ ?_
       clear hK K
       refine den_block ?_
       refine den_sel [80, 1, 2, 3, 4, 9, 10, 11, 68, 69, 70, 78, 79] ?_
       intro env_29
       simp only [go_sem]
       refine den_loopS (σ := Nat × Value × List Nat) (fun st_ => [(80, .int .i64 (st_.1 : Int))]) (fun st_ H => (st_.1 ≤ (mbP X ((n : Int) - 1)).length) ∧ (O3 H st_.2.1 (flM X (fcT X - 1) n r st_.1) st_.2.2) ∧ (Fresh (h5.size) st_.2.2) ∧ (Sub (fphMr ++ ([h1_1.size])) h20_3.size st_.2.2) ∧ (BoxAt H (h1_1.size) #[.int .i64 (X.p), vhD, st_.2.1, vhV] 61) ∧ (Apart st_.2.2 [h1_1.size]) ∧ (Chg (fphMr ++ ([h1_1.size])) h20_3 H)) (fun st_ => (mbP X ((n : Int) - 1)).length - st_.1) (0, vhMr, fphMr) ?_ ?_
       ·exact ⟨by first | (simp; done) | (dsimp only; omega) | (simp; omega), by exact hMr, hfhMr, (Sub.left Sub.refl), by simpa using hbx3, ap_hMr_hbx3, Chg.refl _ _⟩
       ·rintro ⟨c, vhMc, fphMc⟩ h32 ee31 ⟨hi0, hMc, hfhMc, sbhMc, hbx3, ap_hMc_hbx3, cL30⟩
        dsimp only at hi0 hMc hfhMc sbhMc hbx3 ap_hMc_hbx3 cL30
        replace hV := OS.chg hV cL30 (Apart.app (apart_lt hlhV hfhMr (by omega)) ap_hV_hbx3)
        replace hD := OS.chg hD cL30 (Apart.app (apart_lt hlhD hfhMr (by omega)) ap_hD_hbx3)
        replace how17_2_0 := OS.chg how17_2_0 cL30 (Apart.app ap27 (apart_gt hfw17_2_0 hlhbx3 (by omega)))
        replace how20_3_0 := OS.chg how20_3_0 cL30 (Apart.app (apart_gt hfw20_3_0 hlhMr (by omega)) (apart_gt hfw20_3_0 hlhbx3 (by omega)))
        replace hb0_0 := BoxAt.chgA hb0_0 cL30 (Apart.app (apart_lt hlhb0_0 hfhMr (by omega)) (apart_lt hlhb0_0 hfhbx3 (by omega)))
        replace hb0_1 := BoxAt.chgA hb0_1 cL30 (Apart.app (apart_lt hlhb0_1 hfhMr (by omega)) (apart_lt hlhb0_1 hfhbx3 (by omega)))
        have := cL30.size
        replace eB := Ext.then eB cL30 (ge_app (ge_of hfhMr (by omega)) (ge_of hfhbx3 (by omega)))
        replace cL20 := Chg.step cL20 cL30 (Sub.app sb28 (Sub.right Sub.refl))
        replace cL24 := Chg.step cL24 cL30 (Sub.app sbhMr (Sub.right Sub.refl))
        have ap33 : Apart fw17_2_0 fphMc := Apart.sub_ hlhow17_2_0 (by omega) (Apart.app ap27 (apart_gt hfw17_2_0 hlhbx3 (by omega))) sbhMc
        have ap34 : Apart fw20_3_0 fphMc := Apart.sub_ hlhow20_3_0 (by omega) (Apart.app (apart_gt hfw20_3_0 hlhMr (by omega)) (apart_gt hfw20_3_0 hlhbx3 (by omega))) sbhMc
        have sb35 : Sub (fw13_3 ++ ([h1_1.size])) h13_5.size fphMc := Sub.trans sbhMc (Sub.app sb28 (Sub.right Sub.refl)) (by omega)
        have sb36 : Sub (fphM ++ ([h1_1.size])) h17_2.size fphMc := Sub.trans sbhMc (Sub.app sbhMr (Sub.right Sub.refl)) (by omega)
        have hlhMc := OS.lt hMc
        have hfhbx3 := hfhbx3
        have hlhbx3 := hlhbx3
        simp only [List.cons_append, List.nil_append]
        refine den_seq ?_
        refine den_region TTok ?_
        intro K hK
        simp -implicitDefEqProofs (disch := first | decide | assumption | omega) only [go_sem, wrap_id, sbs, Int.toNat_zero, bF0]
        refine hK _ _ ?_
        clear hK K
        refine den_seq ?_
        refine den_cond rfl (fun c4 => ?_) (fun c4 => ?_)
        ·try simp only [ddA] at c4
         refine den_skip ?_
         refine den_seq ?_
         refine den_block ?_
         refine den_seq ?_
         refine den_region TTok ?_
         intro K hK
         simp -implicitDefEqProofs (disch := first | decide | assumption | omega) only [go_sem, ld2, R1.an (OS.rd how20_3_0) sl55, wrap_id, sbs, Int.toNat_zero, bF0]
         refine hK _ _ ?_
         clear hK K
         have hatr := mb_at (X := X) (n := (n : Int)) (k := r) (by omega)
         have hatc := mb_at (X := X) (n := (n : Int) - 1) (k := c) (by omega)
         have hdb := hBd ((mbP X (n : Int)).getD r 0).toNat ((mbP X ((n : Int) - 1)).getD c 0).toNat
         have hsh := flM_sh X (fcT X - 1) n r c
         have hlen := hsh.len
         have hrow := hsh.rows (n - 1) (by omega)
         have hcol := hsh.cols (n - 1) r (by omega) (by omega)
         have hi3 := flM_in3 hB hfm (fcT X - 1) n r c (n - 1) r c (by omega) (by omega) (by omega)
         have hfv := flV_bnd hB hfm (k := n - 1) (r := r) (c := c) (by omega) (by omega)
         have hn1 : ((n : Int) - 1).toNat = n - 1 := by omega
         have hflv : X.dif ((mbP X (n : Int)).getD r 0).toNat ((mbP X ((n : Int) - 1)).getD c 0).toNat = flV X (n - 1) r c := by unfold flV; rw [show ((n - 1 : Nat) : Int) + 1 = (n : Int) by omega, show ((n - 1 : Nat) : Int) = (n : Int) - 1 by omega]
         refine den_draw TTok mixed [12] [(0, true), (1, true), (2, true), (3, true), (4, true), (5, true), (6, true), (7, true), (8, true), (9, true), (10, true), (11, true), (12, false)] (by kernel_rfl) ?_
         intro K hK
         simp -implicitDefEqProofs (disch := first | decide | assumption | omega) only [go_sem, Int.toNat_zero, T2, T5, fa34_4, fa61_0, ia31, ia30, ld58, ld5, RdS.an (OS.rd hV) sl59, R1.an (OS.rd hD) sl55, RdS.an (OS.rd hMc) sl56, BoxAt.dgs hb0_0, BoxAt.cell hbx3, wrap_id, sbs, Int.toNat_zero, bF0]
         try simp -implicitDefEqProofs (disch := first | decide | assumption | omega) only [go_sem, BoxAt.cell hb0_1, wrap_id, sbs, Int.toNat_zero, bF0]
         refine CallA.mono (addAt_ok X.p _ _ _ _ _ (n : Int) (r : Int) (c : Int) _ _ (OS.rd hD) hMc hfhMc.nodup hpb (by omega) (by rw [hn1]; omega) (by rw [hn1, Int.toNat_natCast]; omega) (by rw [hn1, Int.toNat_natCast, Int.toNat_natCast]; exact hi3) (by rw [hflv]; omega)) ?_
         intro v_ h23_12
         rintro ⟨rfl, hog23_12, cg23_12⟩
         replace hV := OS.chg hV cg23_12 (apart_lt hlhV hfhMc (by omega))
         replace hD := OS.chg hD cg23_12 (apart_lt hlhD hfhMc (by omega))
         replace how17_2_0 := OS.chg how17_2_0 cg23_12 ap33
         replace how20_3_0 := OS.chg how20_3_0 cg23_12 ap34
         replace hb0_0 := BoxAt.chgA hb0_0 cg23_12 (apart_lt hlhb0_0 hfhMc (by omega))
         replace hb0_1 := BoxAt.chgA hb0_1 cg23_12 (apart_lt hlhb0_1 hfhMc (by omega))
         replace hbx3 := BoxAt.chgA hbx3 cg23_12 (Apart.symm ap_hMc_hbx3)
         have := cg23_12.size
         replace eB := Ext.then eB cg23_12 (ge_of hfhMc (by omega))
         replace cL20 := Chg.step cL20 cg23_12 sb35
         replace cL24 := Chg.step cL24 cg23_12 sb36
         replace cL30 := Chg.step cL30 cg23_12 sbhMc
         have ap37 : Apart fw17_2_0 fphMc := ap33
         have ap38 : Apart fw20_3_0 fphMc := ap34
         have ap39 : Apart [h1_1.size] fphMc := (Apart.symm ap_hMc_hbx3)
         have hlhog23_12 := hlhMc
         rw [show ((n : Int) - 1).toNat = n - 1 by omega, Int.toNat_natCast, Int.toNat_natCast, hflv] at hog23_12
         try simp (disch := decide) only [outv_some, outv_none, put_puts]
         refine plK_last (by decide) ?_
         try simp -implicitDefEqProofs (disch := first | decide | assumption | omega) only [go_sem, BoxAt.cell hb0_1, wrap_id, sbs, Int.toNat_zero, bF0]
         refine hK _ _ ?_
         clear hK K
         refine den_blk ?_
         refine den_region TTok ?_
         intro K hK
         simp -implicitDefEqProofs (disch := first | decide | assumption | omega) only [go_sem, wrap_id, sbs, Int.toNat_zero, bF0]
         refine hK _ _ ?_
         clear hK K
         refine den_stop ?_
         have hst := flM_step hB hfm (L := fcT X - 1) (k := n - 1) (r := r) (c := c) (by omega) (by omega) (by omega)
         rw [show n - 1 + 1 = n by omega] at hst
         rw [hst] at hog23_12
         exact ⟨(c + 1, vhMc, fphMc), by simp [HasL, puts_at], ⟨by first | omega | (dsimp only; omega), hog23_12, hfhMc, sbhMc, hbx3, (Apart.symm ap39), cL30⟩, by first | omega | (dsimp only; omega)⟩
        ·try simp only [ddA] at c4
         refine den_exit ?_
         refine denX_code ?_
         refine denX_stop ?_
         refine denX_hit ?_
         refine den_blk ?_
         refine den_region TTok ?_
         intro K hK
         simp -implicitDefEqProofs (disch := first | decide | assumption | omega) only [go_sem, wrap_id, sbs, Int.toNat_zero, bF0]
         refine hK _ _ ?_
         clear hK K
         refine den_stop ?_
         rw [show c = flB X (n - 1) by omega, flM_row X (by omega)] at hMc
         exact ⟨(r + 1, vhMc, fphMc), by simp [HasL, puts_at], ⟨by first | omega | (dsimp only; omega), hMc, hfhMc, sb36, hbx3, ap_hMc_hbx3, cL24⟩, by first | omega | (dsimp only; omega)⟩
      ·try simp only [ddA] at c3
       refine den_exit ?_
       refine denX_code ?_
       refine denX_stop ?_
       refine denX_hit ?_
       refine den_blk ?_
       refine den_region TTok ?_
       intro K hK
       simp -implicitDefEqProofs (disch := first | decide | assumption | omega) only [go_sem, wrap_id, sbs, Int.toNat_zero, bF0]
       refine hK _ _ ?_
       clear hK K
       refine den_stop ?_
       rw [show r = flA X (n - 1) by omega, flM_tab X (by omega)] at hMr
       exact ⟨(n + 1, vhMr, fphMr), by simp [HasL, puts_at], ⟨by first | omega | (dsimp only; omega), by first | omega | (dsimp only; omega), hMr, hfhMr, sb28, hbx3, ap_hMr_hbx3, cL20⟩, by first | omega | (dsimp only; omega)⟩
    ·try simp only [ddA] at c2
     refine den_exit ?_
     refine denX_code ?_
     refine denX_stop ?_
     refine denX_hit ?_
     refine den_seq ?_
     refine den_region TTok ?_
     intro K hK
     simp -implicitDefEqProofs (disch := first | decide | assumption | omega) only [go_sem, ld61, RdS.an (OS.rd hV) sl59, R1.an (OS.rd hD) sl55, RdS.an (OS.rd hM) sl56, BoxAt.cell hbx3, wrap_id, sbs, Int.toNat_zero, bF0]
     refine op_storeB (cs' := #[.int .i64 (X.p), vhD, vhM, vhV]) st61 hb0_1 rfl rfl rfl (by simp) (allOne_mem (l := [.int .i64 (X.p), vhD, vhM, vhV]) ⟨rfl, (OS.one hD).1, (OS.one hM).1, (OS.one hV).1, trivial⟩) rfl ?_
     intro h26_1 hb0_1 c26_1
     replace hV := OS.chg hV c26_1 (apart_gt hfhV hlhb0_1 (by omega))
     replace hD := OS.chg hD c26_1 (apart_gt hfhD hlhb0_1 (by omega))
     replace hM := OS.chg hM c26_1 (apart_gt hfhM hlhb0_1 (by omega))
     replace hbx3 := BoxAt.chgA hbx3 c26_1 (apart_gt hfhbx3 hlhb0_1 (by omega))
     have := c26_1.size
     replace eB := Ext.then eB c26_1 (ge_of hfhb0_1 (by omega))
     try simp -implicitDefEqProofs (disch := first | decide | assumption | omega) only [go_sem, RdS.an (OS.rd hV) sl59, R1.an (OS.rd hD) sl55, RdS.an (OS.rd hM) sl56, BoxAt.cell hb0_1, wrap_id, sbs, Int.toNat_zero, bF0]
     refine hK _ _ ?_
     clear hK K
     refine den_ret ?_
     simp -implicitDefEqProofs (disch := first | decide | assumption | omega) only [go_sem, RdS.an (OS.rd hV) sl59, R1.an (OS.rd hD) sl55, RdS.an (OS.rd hM) sl56, BoxAt.cell hb0_1, wrap_id, sbs, Int.toNat_zero, bF0, resP_c1, ld61]
     have hD := hD
     have hM := hM
     have hV := hV
     rw [show n = fcT X - 1 + 1 by omega, flM_end] at hM
     exact ⟨_, _, _, _, _, _, rfl, hD, hM, hV, Fresh.two (lo := h.size) hfhD (Fresh.two (lo := h.size) hfhM hfhV (apart_gt hfhM hlhV (by omega)) (by omega) (by omega)) (Apart.app (apart_lt hlhD hfhM (by omega)) (Apart.symm ap_hV_hD)) (by omega) (by omega), eB⟩
end Go.Proofs.Ytacajcjibhifmaa

namespace Go.Proofs.Ytacajcjibhifmaa
open Go
theorem stepRow_cg {p x : Int} {row acc : List Int} {w : Nat} (hl : row.length = acc.length) (hx : 0 ≤ x) (hr : Bnd p row) (ha : Bnd p acc) (j : Nat) : Cg p ((stepRow p x row acc).getD j 0) (acc.getD j 0 + x * row.getD j 0) := by
 rcases Nat.lt_or_ge j acc.length with h | h
 ·have h1 := ha.at h
  have h2 := hr.at (k := j) (by omega)
  have h3 : 0 ≤ x * row.getD j 0 := Int.mul_nonneg hx h2.1
  rw [stepRow_get hl h, tmod_e (by omega)]; exact Cg.mod _
 ·rw [getD_out (by rw [stepRow_len hl]; exact h), getD_out h, getD_out (by omega), Int.mul_zero]; exact Cg.refl _
theorem sm_head (n : Nat) (f : Nat → Int) : sm (n + 1) f = f 0 + sm n fun i => f (i + 1) := by
 induction n with
 | zero => simp [sm]
 | succ n ih => rw [sm, ih, sm]; omega
/-- What a vector makes of rows, as a sum. -/
theorem accP_cg {p : Int} (hp : 0 < p) : ∀ {v : List Int} {rows : List (List Int)} {acc : List Int}, v.length ≤ rows.length → Bnd p v → Tbl p acc.length rows → Bnd p acc → ∀ j, Cg p ((accP p v rows acc).getD j 0) (acc.getD j 0 + sm v.length fun i => v.getD i 0 * g2 rows i j)
 | [], rows, acc, _, _, _, _, j => by cases rows <;> (simp only [accP, List.length_nil, sm]; exact Cg.of_eq (by omega))
 | x :: v, [], acc, h, _, _, _, j => by simp at h
 | x :: v, r :: rows, acc, h, hv, ht, ha, j => by
  have hr := ht r (by simp)
  have hx := hv x (by simp)
  have hsl : (stepRow p x r acc).length = acc.length := stepRow_len (by omega)
  have hsb := stepRow_bnd hp hx.1 hr.2 ha
  rw [accP]
  refine (accP_cg hp (v := v) (rows := rows) (by simpa using h) (fun y hy => hv y (List.mem_cons_of_mem _ hy)) (fun y hy => by rw [hsl]; exact ht y (List.mem_cons_of_mem _ hy)) hsb j).trans ?_
  refine (Cg.add (stepRow_cg (w := acc.length) (by omega) hx.1 hr.2 ha j) (Cg.refl _)).trans (Cg.of_eq ?_)
  rw [List.length_cons, sm_head]
  have e1 : (x :: v).getD 0 0 * g2 (r :: rows) 0 j = x * r.getD j 0 := rfl
  have e2 : (sm v.length fun i => (x :: v).getD (i + 1) 0 * g2 (r :: rows) (i + 1) j) = sm v.length fun i => v.getD i 0 * g2 rows i j := sm_eq fun i _ => rfl
  rw [e1, e2]; omega
structure ArOk (X Y : Cx) (f g : List (List (List Int))) : Prop where
 cX : IsC X
 cY : IsC Y
 cf : IsFam X Y f 0
 cg : IsFam X Y g 0
 p : X.p = Y.p
 l : X.dims.length = Y.dims.length
end Go.Proofs.Ytacajcjibhifmaa

namespace Go.Proofs.Ytacajcjibhifmaa
open Go
/-- What the differential of an element is. -/
theorem dfI_val {p : Int} {dif : Nat → Nat → Int} {u : Nat → Int} (hp : 0 < p) {k : Nat} (hk : k < 8) : ∀ n, dfI p dif u n k = (sm n fun i => u i * dif i k) % p
 | 0 => by show (0 : Int) = 0 % p; rw [Int.zero_emod]
 | n + 1 => by
  rw [dfI, plusN, if_pos hk, dfI_val hp hk n, sm, Int.emod_add_emod]
/-- A sum over the members of a degree. -/
theorem sm_mb {X : Dg} {n : Int} (f : Nat → Int) : ∀ m, (sm (mbT X n m).length fun q => f ((mbT X n m).getD q 0).toNat) = sm m fun i => if X.deg i = n then f i else 0
 | 0 => rfl
 | m + 1 => by
  rw [sm, ← sm_mb f m]
  by_cases h : X.deg m = n
  ·rw [if_pos h, ← mbT_yes h, List.length_append, List.length_singleton, sm, getD_app2, Int.toNat_natCast]
   congr 1
   exact sm_eq fun q hq => by rw [getD_app1 hq]
  ·rw [if_neg h, ← mbT_no h, Int.add_zero]
theorem sm_more {f : Nat → Int} {m : Nat} : ∀ n, (∀ i, m ≤ i → i < m + n → f i = 0) → sm (m + n) f = sm m f
 | 0, _ => rfl
 | n + 1, h => by rw [← Nat.add_assoc, sm, sm_more n (fun i h1 h2 => h i h1 (by omega)), h (m + n) (by omega) (by omega), Int.add_zero]
theorem vc_get {X : Dg} {n : Int} {u : Nat → Int} {q : Nat} (hq : q < (mbP X n).length) : (vcP X n u).getD q 0 = u ((mbP X n).getD q 0).toNat := by
 rw [vcP, List.getD_eq_getElem?_getD, List.getElem?_map, List.getElem?_eq_getElem hq, List.getD_eq_getElem?_getD, List.getElem?_eq_getElem hq]; rfl
theorem vc_len (X : Dg) (n : Int) (u : Nat → Int) : (vcP X n u).length = (mbP X n).length := by rw [vcP, List.length_map]
end Go.Proofs.Ytacajcjibhifmaa
