/-
  Walks: strings.
  Conditions: each theorem's own.
-/
import Derived.Test.YtacajcjibhifmaaDoorC5
import Derived.Test.YtacajcjibhifmaaDoorKS
set_option linter.unusedVariables false
set_option linter.unusedSimpArgs false
namespace Go.Proofs.YtacajcjibhifmaaDoor
open Go
/-! Strings: their bytes. -/
def sV (l : List UInt8) : Value := .string ⟨l.toArray⟩
theorem sV_0 : Value.string ⟨#[]⟩ = sV [] := rfl
theorem sV_44 : Value.string ⟨#[44]⟩ = sV [44] := rfl
theorem sV_45 : Value.string ⟨#[45]⟩ = sV [45] := rfl
theorem sV_58 : Value.string ⟨#[58]⟩ = sV [58] := rfl
theorem sV_59 : Value.string ⟨#[59]⟩ = sV [59] := rfl
theorem ba_app (a b : List UInt8) : (⟨a.toArray⟩ ++ ⟨b.toArray⟩ : ByteArray) = ⟨(a ++ b).toArray⟩ := by
  apply ByteArray.ext
  rw [ByteArray.data_append]
  simp
theorem ba_list (a : List UInt8) : (⟨a.toArray⟩ : ByteArray).toList = a := by
  rw [Lib.toList_data]
theorem bin_sadd {T : Tab} {t : TypeId} {a b : List UInt8} (h : a.length + b.length ≤ 1000000) : binV T .add t (sV a) (sV b) = some (sV (a ++ b)) := by
  have h1 : ((((⟨a.toArray⟩ : ByteArray).size + (⟨b.toArray⟩ : ByteArray).size : Nat)) : Int) = ((a.length + b.length : Nat) : Int) := by simp [ByteArray.size]
  have hm : IntKind.i64.max = 9223372036854775807 := by decide
  show strV .add ⟨a.toArray⟩ ⟨b.toArray⟩ = _
  unfold strV
  dsimp only
  rw [h1, hm, if_neg (by omega), ba_app]; rfl
theorem bin_seq {T : Tab} {t : TypeId} {a b : List UInt8} : binV T .eql t (sV a) (sV b) = some (.bool (a == b)) := by
  show strV .eql ⟨a.toArray⟩ ⟨b.toArray⟩ = _
  unfold strV
  dsimp only
  rw [ba_list, ba_list]
theorem bin_sne {T : Tab} {t : TypeId} {a b : List UInt8} : binV T .neq t (sV a) (sV b) = some (.bool (a != b)) := by
  show strV .neq ⟨a.toArray⟩ ⟨b.toArray⟩ = _
  unfold strV
  dsimp only
  rw [ba_list, ba_list]; rfl
theorem sV_cells (l : List UInt8) : (sV l).cells = #[sV l] := rfl
theorem sV_one (l : List UInt8) : (sV l).oneCell' = true := rfl
def OSt (_ : Heap) (v : Value) (x : List UInt8) (fp : List Nat) : Prop := v = sV x ∧ fp = []
instance : Own OSt := ⟨fun _ h => h, (fun h b hb => by rw [h.2] at hb; cases hb), (fun h => by rw [h.1]; exact ⟨rfl, rfl⟩)⟩
def OYe (_ : Heap) (v : Value) (x : Int) (fp : List Nat) : Prop := v = .int .u8 x ∧ fp = []
instance : Own OYe := ⟨fun _ h => h, (fun h b hb => by rw [h.2] at hb; cases hb), (fun h => by rw [h.1]; exact ⟨rfl, rfl⟩)⟩
abbrev OT : Heap → Value → List (List UInt8) → List Nat → Prop := OS 9 OSt
abbrev OY : Heap → Value → List Int → List Nat → Prop := OS 5 OYe
def strB (xs : List Int) : List UInt8 := xs.map fun n => UInt8.ofNat n.toNat
theorem strOf_push : ∀ (xs : List Int) (l : List UInt8), xs.foldl (fun r n => r.push (UInt8.ofNat n.toNat)) (⟨l.toArray⟩ : ByteArray) = ⟨(l ++ strB xs).toArray⟩
  | [], l => by simp [strB]
  | x :: r, l => by
    rw [List.foldl_cons, show (⟨l.toArray⟩ : ByteArray).push (UInt8.ofNat x.toNat) = ⟨(l ++ [UInt8.ofNat x.toNat]).toArray⟩ by rw [ByteArray.push]; simp, strOf_push r]
    simp [strB]
theorem strOf_eq (xs : List Int) : Value.string (strOf xs) = sV (strB xs) := by
  have := strOf_push xs []
  rw [List.nil_append] at this
  unfold strOf sV
  rw [← this]; rfl
theorem bytesV_of : ∀ (xs : List Int), bytesV (xs.map (Value.int .u8)) = some xs
  | [] => rfl
  | x :: r => by rw [List.map_cons, bytesV, bytesV_of r]; rfl
theorem OY.cv {h : Heap} {v : Value} {xs : List Int} {fp : List Nat} (ho : OY h v xs fp) : convH TT h 63 9 v = some (sV (strB xs)) := by
  rcases ho with ⟨rfl, rfl, rfl⟩ | ⟨b, c, cur, fps, rfl, r⟩
  · show ((TT 63).bind fun i => (TT 9).bind fun j => _) = _
    rw [T63, T9]
    dsimp only [Option.bind_some]
    rw [T5]
    dsimp only [Option.bind_some]
    rw [strOf_eq]
  · rw [r.val]
    have hc : hcells h ⟨b, 0, none⟩ 0 xs.length = some (xs.map (Value.int .u8)) := by
      rw [hcells_box r.box _ 0 (by have := r.size; have := r.le; omega)]
      congr 1
      refine List.ext_getElem? fun j => ?_
      rw [List.drop_zero]
      by_cases hj : j < xs.length
      · obtain ⟨u, f, k1, _, k3⟩ := r.el j hj
        rw [List.getElem?_take_of_lt hj, Array.getElem?_toList, k1, List.getElem?_map, List.getElem?_eq_getElem hj, k3.1]; rfl
      · rw [List.getElem?_eq_none (by simp; omega), List.getElem?_eq_none (by simp; omega)]
    show ((TT 63).bind fun i => (TT 9).bind fun j => _) = _
    rw [T63, T9]
    dsimp only [Option.bind_some]
    rw [T5]
    dsimp only [Option.bind_some]
    rw [hc, Option.bind_some, bytesV_of, Option.map_some, strOf_eq]
section
variable {P : Program} {n : Nat} {K : Env → Heap → Prop} {env : Env} {h : Heap} {d : Option Tmp} {ty : TypeId} {p : String} {a : Array Edge} {g : Option (Nat × Bool)}
/-- A literal of one byte, as a slice of one's own. -/
theorem op_bs1Y {x : Operand} {q : Int} (hx : ev env x = .int .u8 q) (hk : ∀ v' h', OY h' v' [q] [h.size] → Ext h h' → outv n ⟨d, .buildSlice 63 1 #[(0, x)], ty, p, a, g⟩ K env h' v') : opP P TT n ⟨d, .buildSlice 63 1 #[(0, x)], ty, p, a, g⟩ K env h := by
  refine op_bs1 sz63 hx rfl ?_
  have hns := OS.new (e := 5) (E := OYe) h #[Value.int .u8 q] [q] [[]] rfl (by simp) (by simp) (fun j hj => by
    have : j = 0 := by simpa using hj
    subst this
    exact ⟨_, [], rfl, rfl, rfl, rfl⟩)
  exact hk _ _ hns (Ext.push _ _)
end
/-- A digit. -/
def dg8 (n : Int) : List UInt8 := [UInt8.ofNat (48 + n).toNat]
theorem dg8_dec {i : Nat} (h : i < 10) : Lib.decDigits i = dg8 (i : Int) := by
  rw [Lib.decDigits, dif_pos h, dg8, show (48 + (i : Int)).toNat = 48 + i by omega]
theorem fr_below {w w' : World} (b : RowKit.Below w.heap.size w w') : Fr w w' ∧ Ext w.heap w'.heap := ⟨⟨b.os, b.tape, b.output⟩, b.size, fun i hi => b.block i hi⟩
theorem dec_ok (n : Int) (h : Heap) (hn : 0 ≤ n ∧ n < 10) : CallA Tryd.prog 50 #[.int .i64 n, .int .i64 10] h fun u h' => u = sV (dg8 n) ∧ h' = h := by
  refine ⟨_, Tryd.func50, by kernel_rfl, by kernel_rfl, fun w hw => ?_⟩
  obtain ⟨i, rfl⟩ := Int.eq_ofNat_of_zero_le hn.1
  refine (Tryd.strconv_FormatInt_10_small i (by omega) w).mono ?_
  rintro e w' ⟨rfl, rfl⟩
  exact ⟨_, rfl, Fr.refl _, by rw [dg8_dec (by omega)]; rfl, hw⟩
theorem join_ok (v : Value) (ws : List (List UInt8)) (sep : List UInt8) (fp : List Nat) (h : Heap) (ho : OT h v ws fp) (hl : (Lib.join ws sep).length ≤ 1000000) (hn : ws.length ≤ 1000000) : CallA Tryd.prog 41 #[v, sV sep] h fun u h' => u = sV (Lib.join ws sep) ∧ Ext h h' := by
  refine ⟨_, Tryd.func41, by kernel_rfl, by kernel_rfl, fun w hw => ?_⟩
  subst hw
  rcases ho with ⟨rfl, rfl, rfl⟩ | ⟨b, c, cur, fps, rfl, r⟩
  · refine (Tryd.strings_Join_none none 0 ⟨sep.toArray⟩ w).mono ?_
    rintro e w' ⟨rfl, rfl⟩
    exact ⟨_, rfl, Fr.refl _, rfl, Ext.refl _⟩
  · have hm : ((ws.map fun l => (⟨l.toArray⟩ : ByteArray)).map (·.data.toList)) = ws := by
      rw [List.map_map]
      exact (List.map_congr_left (fun x _ => rfl)).trans (List.map_id ws)
    have hj := Tryd.strings_Join b 0 c (ws.map fun l => (⟨l.toArray⟩ : ByteArray)) ⟨sep.toArray⟩ w (fun j x hx => by
      rw [List.getElem?_map] at hx
      obtain ⟨l, hl, rfl⟩ := Option.map_eq_some_iff.1 hx
      have hjl : j < ws.length := (List.getElem?_eq_some_iff.1 hl).1
      obtain ⟨u, f, k1, _, k3⟩ := r.el j hjl
      rw [Nat.zero_add]
      have := r.box.cell j
      rw [k1, k3.1] at this
      rw [List.getElem?_eq_getElem hjl] at hl
      injection hl with hl
      subst hl
      exact this) r.box.lt (by rw [List.length_map]; omega) (by rw [List.length_map]; exact r.le) (by rw [hm]; show (Lib.join ws sep).length ≤ _; omega)
    rw [hm, List.length_map] at hj
    rw [r.val]
    refine hj.mono ?_
    rintro e w' ⟨rfl, hb⟩
    exact ⟨_, rfl, (fr_below hb).1, rfl, (fr_below hb).2⟩

end Go.Proofs.YtacajcjibhifmaaDoor
