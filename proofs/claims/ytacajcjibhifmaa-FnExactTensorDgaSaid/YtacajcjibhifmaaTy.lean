/-
  The types of this seat's program: what the ground asks of each. Made by a program of ours (wip/gentypes.py).
  Conditions: none.
-/
import Derived.Test.YtacajcjibhifmaaG6
import Derived.Test.YtacajcjibhifmaaProg
set_option linter.unusedVariables false
set_option linter.unusedSimpArgs false
set_option maxRecDepth 100000
namespace Go.Proofs.Ytacajcjibhifmaa
open Go
noncomputable def TT : Tab := tabOf Try.prog
theorem TTok : TOk Try.prog TT := tabOf_ok _
theorem mixed : Try.prog.follows .mixedOrders = true := by kernel_rfl
theorem ld1 (h : Heap) (a : Addr) : loadV TT h 1 a = hcell h a := by kernel_rfl
theorem st1 (h : Heap) (a : Addr) (v : Value) : storeV TT h 1 a v = if v.cells.size = 1 then hputs a h 0 v.cells.toList else none := by kernel_rfl
theorem T2 : TT 2 = some ⟨.int .i64, 1, 8, (.int .i64 0)⟩ := by kernel_rfl
theorem ld2 (h : Heap) (a : Addr) : loadV TT h 2 a = hcell h a := by kernel_rfl
theorem st2 (h : Heap) (a : Addr) (v : Value) : storeV TT h 2 a v = if v.cells.size = 1 then hputs a h 0 v.cells.toList else none := by kernel_rfl
theorem T3 : TT 3 = some ⟨.int .i64, 1, 8, (.int .i64 0)⟩ := by kernel_rfl
theorem ld3 (h : Heap) (a : Addr) : loadV TT h 3 a = hcell h a := by kernel_rfl
theorem st3 (h : Heap) (a : Addr) (v : Value) : storeV TT h 3 a v = if v.cells.size = 1 then hputs a h 0 v.cells.toList else none := by kernel_rfl
theorem T4 : TT 4 = some ⟨.bool, 1, 1, (.bool false)⟩ := by kernel_rfl
theorem ld4 (h : Heap) (a : Addr) : loadV TT h 4 a = hcell h a := by kernel_rfl
theorem st4 (h : Heap) (a : Addr) (v : Value) : storeV TT h 4 a v = if v.cells.size = 1 then hputs a h 0 v.cells.toList else none := by kernel_rfl
theorem T5 : TT 5 = some ⟨.int .u8, 1, 1, (.int .u8 0)⟩ := by kernel_rfl
theorem ld5 (h : Heap) (a : Addr) : loadV TT h 5 a = hcell h a := by kernel_rfl
theorem st5 (h : Heap) (a : Addr) (v : Value) : storeV TT h 5 a v = if v.cells.size = 1 then hputs a h 0 v.cells.toList else none := by kernel_rfl
theorem T6 : TT 6 = some ⟨.int .u8, 1, 1, (.int .u8 0)⟩ := by kernel_rfl
theorem ld6 (h : Heap) (a : Addr) : loadV TT h 6 a = hcell h a := by kernel_rfl
theorem st6 (h : Heap) (a : Addr) (v : Value) : storeV TT h 6 a v = if v.cells.size = 1 then hputs a h 0 v.cells.toList else none := by kernel_rfl
theorem fa7_0 (a : Addr) : fieldAddrV TT 7 (.pointer (some a)) 0 = some (.pointer (some (a.add 0))) := by kernel_rfl
theorem fa7_1 (a : Addr) : fieldAddrV TT 7 (.pointer (some a)) 1 = some (.pointer (some (a.add 1))) := by kernel_rfl
theorem fa7_2 (a : Addr) : fieldAddrV TT 7 (.pointer (some a)) 2 = some (.pointer (some (a.add 2))) := by kernel_rfl
theorem fa7_3 (a : Addr) : fieldAddrV TT 7 (.pointer (some a)) 3 = some (.pointer (some (a.add 3))) := by kernel_rfl
theorem ld7 (h : Heap) (a : Addr) : loadV TT h 7 a = (hcells h a 0 4).map fun cs => .agg cs.toArray := by kernel_rfl
theorem st7 (h : Heap) (a : Addr) (v : Value) : storeV TT h 7 a v = if v.cells.size = 4 then hputs a h 0 v.cells.toList else none := by kernel_rfl
noncomputable def d7 : TypeDesc := (Try.prog.underlying 7).getD .bool
theorem T7 : TT 7 = some ⟨d7, 4, 24, .agg #[(.int .i64 0), (.int .i64 0), (.bool false), (.int .u8 0)]⟩ := by kernel_rfl
theorem fd7_0 (v0 v1 v2 v3 : Value) : fieldV TT 7 (.agg #[v0, v1, v2, v3]) 0 = some v0 := by kernel_rfl
theorem fd7_1 (v0 v1 v2 v3 : Value) : fieldV TT 7 (.agg #[v0, v1, v2, v3]) 1 = some v1 := by kernel_rfl
theorem fd7_2 (v0 v1 v2 v3 : Value) : fieldV TT 7 (.agg #[v0, v1, v2, v3]) 2 = some v2 := by kernel_rfl
theorem fd7_3 (v0 v1 v2 v3 : Value) : fieldV TT 7 (.agg #[v0, v1, v2, v3]) 3 = some v3 := by kernel_rfl
theorem fa8_0 (a : Addr) : fieldAddrV TT 8 (.pointer (some a)) 0 = some (.pointer (some (a.add 0))) := by kernel_rfl
theorem fa8_1 (a : Addr) : fieldAddrV TT 8 (.pointer (some a)) 1 = some (.pointer (some (a.add 1))) := by kernel_rfl
theorem fa8_2 (a : Addr) : fieldAddrV TT 8 (.pointer (some a)) 2 = some (.pointer (some (a.add 2))) := by kernel_rfl
theorem fa8_3 (a : Addr) : fieldAddrV TT 8 (.pointer (some a)) 3 = some (.pointer (some (a.add 3))) := by kernel_rfl
theorem ld8 (h : Heap) (a : Addr) : loadV TT h 8 a = (hcells h a 0 4).map fun cs => .agg cs.toArray := by kernel_rfl
theorem st8 (h : Heap) (a : Addr) (v : Value) : storeV TT h 8 a v = if v.cells.size = 4 then hputs a h 0 v.cells.toList else none := by kernel_rfl
noncomputable def d8 : TypeDesc := (Try.prog.underlying 8).getD .bool
theorem T8 : TT 8 = some ⟨d8, 4, 24, .agg #[(.int .i64 0), (.int .i64 0), (.bool false), (.int .u8 0)]⟩ := by kernel_rfl
theorem fd8_0 (v0 v1 v2 v3 : Value) : fieldV TT 8 (.agg #[v0, v1, v2, v3]) 0 = some v0 := by kernel_rfl
theorem fd8_1 (v0 v1 v2 v3 : Value) : fieldV TT 8 (.agg #[v0, v1, v2, v3]) 1 = some v1 := by kernel_rfl
theorem fd8_2 (v0 v1 v2 v3 : Value) : fieldV TT 8 (.agg #[v0, v1, v2, v3]) 2 = some v2 := by kernel_rfl
theorem fd8_3 (v0 v1 v2 v3 : Value) : fieldV TT 8 (.agg #[v0, v1, v2, v3]) 3 = some v3 := by kernel_rfl
theorem T9 : TT 9 = some ⟨.string, 1, 16, (.string ⟨#[]⟩)⟩ := by kernel_rfl
theorem ld9 (h : Heap) (a : Addr) : loadV TT h 9 a = hcell h a := by kernel_rfl
theorem st9 (h : Heap) (a : Addr) (v : Value) : storeV TT h 9 a v = if v.cells.size = 1 then hputs a h 0 v.cells.toList else none := by kernel_rfl
theorem T10 : TT 10 = some ⟨.string, 1, 16, (.string ⟨#[]⟩)⟩ := by kernel_rfl
theorem ld10 (h : Heap) (a : Addr) : loadV TT h 10 a = hcell h a := by kernel_rfl
theorem st10 (h : Heap) (a : Addr) (v : Value) : storeV TT h 10 a v = if v.cells.size = 1 then hputs a h 0 v.cells.toList else none := by kernel_rfl
theorem T11 : TT 11 = some ⟨.string, 1, 16, (.string ⟨#[]⟩)⟩ := by kernel_rfl
theorem ld11 (h : Heap) (a : Addr) : loadV TT h 11 a = hcell h a := by kernel_rfl
theorem st11 (h : Heap) (a : Addr) (v : Value) : storeV TT h 11 a v = if v.cells.size = 1 then hputs a h 0 v.cells.toList else none := by kernel_rfl
theorem T12 : TT 12 = some ⟨.int .u64, 1, 8, (.int .u64 0)⟩ := by kernel_rfl
theorem ld12 (h : Heap) (a : Addr) : loadV TT h 12 a = hcell h a := by kernel_rfl
theorem st12 (h : Heap) (a : Addr) (v : Value) : storeV TT h 12 a v = if v.cells.size = 1 then hputs a h 0 v.cells.toList else none := by kernel_rfl
theorem fa13_0 (a : Addr) : fieldAddrV TT 13 (.pointer (some a)) 0 = some (.pointer (some (a.add 0))) := by kernel_rfl
theorem fa13_1 (a : Addr) : fieldAddrV TT 13 (.pointer (some a)) 1 = some (.pointer (some (a.add 1))) := by kernel_rfl
theorem ld13 (h : Heap) (a : Addr) : loadV TT h 13 a = (hcells h a 0 2).map fun cs => .agg cs.toArray := by kernel_rfl
theorem st13 (h : Heap) (a : Addr) (v : Value) : storeV TT h 13 a v = if v.cells.size = 2 then hputs a h 0 v.cells.toList else none := by kernel_rfl
noncomputable def d13 : TypeDesc := (Try.prog.underlying 13).getD .bool
theorem T13 : TT 13 = some ⟨d13, 2, 24, .agg #[(.string ⟨#[]⟩), (.int .u64 0)]⟩ := by kernel_rfl
theorem fd13_0 (v0 v1 : Value) : fieldV TT 13 (.agg #[v0, v1]) 0 = some v0 := by kernel_rfl
theorem fd13_1 (v0 v1 : Value) : fieldV TT 13 (.agg #[v0, v1]) 1 = some v1 := by kernel_rfl
theorem fa14_0 (a : Addr) : fieldAddrV TT 14 (.pointer (some a)) 0 = some (.pointer (some (a.add 0))) := by kernel_rfl
theorem fa14_1 (a : Addr) : fieldAddrV TT 14 (.pointer (some a)) 1 = some (.pointer (some (a.add 1))) := by kernel_rfl
theorem ld14 (h : Heap) (a : Addr) : loadV TT h 14 a = (hcells h a 0 2).map fun cs => .agg cs.toArray := by kernel_rfl
theorem st14 (h : Heap) (a : Addr) (v : Value) : storeV TT h 14 a v = if v.cells.size = 2 then hputs a h 0 v.cells.toList else none := by kernel_rfl
noncomputable def d14 : TypeDesc := (Try.prog.underlying 14).getD .bool
theorem T14 : TT 14 = some ⟨d14, 2, 24, .agg #[(.string ⟨#[]⟩), (.int .u64 0)]⟩ := by kernel_rfl
theorem fd14_0 (v0 v1 : Value) : fieldV TT 14 (.agg #[v0, v1]) 0 = some v0 := by kernel_rfl
theorem fd14_1 (v0 v1 : Value) : fieldV TT 14 (.agg #[v0, v1]) 1 = some v1 := by kernel_rfl
theorem ld15 (h : Heap) (a : Addr) : loadV TT h 15 a = hcell h a := by kernel_rfl
theorem st15 (h : Heap) (a : Addr) (v : Value) : storeV TT h 15 a v = if v.cells.size = 1 then hputs a h 0 v.cells.toList else none := by kernel_rfl
theorem ld16 (h : Heap) (a : Addr) : loadV TT h 16 a = hcell h a := by kernel_rfl
theorem st16 (h : Heap) (a : Addr) (v : Value) : storeV TT h 16 a v = if v.cells.size = 1 then hputs a h 0 v.cells.toList else none := by kernel_rfl
theorem ld17 (h : Heap) (a : Addr) : loadV TT h 17 a = hcell h a := by kernel_rfl
theorem st17 (h : Heap) (a : Addr) (v : Value) : storeV TT h 17 a v = if v.cells.size = 1 then hputs a h 0 v.cells.toList else none := by kernel_rfl
theorem fa18_0 (a : Addr) : fieldAddrV TT 18 (.pointer (some a)) 0 = some (.pointer (some (a.add 0))) := by kernel_rfl
theorem ld18 (h : Heap) (a : Addr) : loadV TT h 18 a = (hcells h a 0 1).map fun cs => .agg cs.toArray := by kernel_rfl
theorem st18 (h : Heap) (a : Addr) (v : Value) : storeV TT h 18 a v = if v.cells.size = 1 then hputs a h 0 v.cells.toList else none := by kernel_rfl
noncomputable def d18 : TypeDesc := (Try.prog.underlying 18).getD .bool
theorem T18 : TT 18 = some ⟨d18, 1, 8, .agg #[(.pointer none)]⟩ := by kernel_rfl
theorem fd18_0 (v0 : Value) : fieldV TT 18 (.agg #[v0]) 0 = some v0 := by kernel_rfl
theorem fa19_0 (a : Addr) : fieldAddrV TT 19 (.pointer (some a)) 0 = some (.pointer (some (a.add 0))) := by kernel_rfl
theorem ld19 (h : Heap) (a : Addr) : loadV TT h 19 a = (hcells h a 0 1).map fun cs => .agg cs.toArray := by kernel_rfl
theorem st19 (h : Heap) (a : Addr) (v : Value) : storeV TT h 19 a v = if v.cells.size = 1 then hputs a h 0 v.cells.toList else none := by kernel_rfl
noncomputable def d19 : TypeDesc := (Try.prog.underlying 19).getD .bool
theorem T19 : TT 19 = some ⟨d19, 1, 8, .agg #[(.pointer none)]⟩ := by kernel_rfl
theorem fd19_0 (v0 : Value) : fieldV TT 19 (.agg #[v0]) 0 = some v0 := by kernel_rfl
theorem T21 : TT 21 = some ⟨.int .i32, 1, 4, (.int .i32 0)⟩ := by kernel_rfl
theorem ld21 (h : Heap) (a : Addr) : loadV TT h 21 a = hcell h a := by kernel_rfl
theorem st21 (h : Heap) (a : Addr) (v : Value) : storeV TT h 21 a v = if v.cells.size = 1 then hputs a h 0 v.cells.toList else none := by kernel_rfl
theorem ia22 (a : Addr) {i : Int} (h : 0 ≤ i ∧ i < 8) : idxAddrV TT 22 (.pointer (some a)) (.int .i64 i) = some (.pointer (some (a.add i.toNat))) := by rw [← Nat.mul_one i.toNat]; exact idxAddr_arr (s := 1) (e := 2) (n := 8) (by kernel_rfl) (by kernel_rfl) h
theorem ix22 (cs : Array Value) {i : Int} (h : 0 ≤ i ∧ i < 8) : indexV TT 22 (.agg cs) (.int .i64 i) = cs[i.toNat]? := index_arr1 (e := 2) (n := 8) (by kernel_rfl) (by kernel_rfl) h
theorem ln22 (v : Value) : lenV TT 22 v = some (.int .i64 8) := len_arr (e := 2) (n := 8) (by kernel_rfl)
theorem ld22 (h : Heap) (a : Addr) : loadV TT h 22 a = (hcells h a 0 8).map fun cs => .agg cs.toArray := by kernel_rfl
theorem st22 (h : Heap) (a : Addr) (v : Value) : storeV TT h 22 a v = if v.cells.size = 8 then hputs a h 0 v.cells.toList else none := by kernel_rfl
theorem ia23 (a : Addr) {i : Int} (h : 0 ≤ i ∧ i < 8) : idxAddrV TT 23 (.pointer (some a)) (.int .i64 i) = some (.pointer (some (a.add i.toNat))) := by rw [← Nat.mul_one i.toNat]; exact idxAddr_arr (s := 1) (e := 5) (n := 8) (by kernel_rfl) (by kernel_rfl) h
theorem ix23 (cs : Array Value) {i : Int} (h : 0 ≤ i ∧ i < 8) : indexV TT 23 (.agg cs) (.int .i64 i) = cs[i.toNat]? := index_arr1 (e := 5) (n := 8) (by kernel_rfl) (by kernel_rfl) h
theorem ln23 (v : Value) : lenV TT 23 v = some (.int .i64 8) := len_arr (e := 5) (n := 8) (by kernel_rfl)
theorem ld23 (h : Heap) (a : Addr) : loadV TT h 23 a = (hcells h a 0 8).map fun cs => .agg cs.toArray := by kernel_rfl
theorem st23 (h : Heap) (a : Addr) (v : Value) : storeV TT h 23 a v = if v.cells.size = 8 then hputs a h 0 v.cells.toList else none := by kernel_rfl
theorem ia24 (a : Addr) {i : Int} (h : 0 ≤ i ∧ i < 8) : idxAddrV TT 24 (.pointer (some a)) (.int .i64 i) = some (.pointer (some (a.add (i.toNat * 8)))) := idxAddr_arr (s := 8) (e := 23) (n := 8) (by kernel_rfl) (by kernel_rfl) h
theorem ix24 (cs : Array Value) {i : Int} (h : 0 ≤ i ∧ i < 8) : indexV TT 24 (.agg cs) (.int .i64 i) = some (.agg (cs.extract (i.toNat * 8) (i.toNat * 8 + 8))) := index_arrA (e := 23) (n := 8) (by kernel_rfl) (by kernel_rfl) h
theorem ln24 (v : Value) : lenV TT 24 v = some (.int .i64 8) := len_arr (e := 23) (n := 8) (by kernel_rfl)
theorem ld24 (h : Heap) (a : Addr) : loadV TT h 24 a = (hcells h a 0 64).map fun cs => .agg cs.toArray := by kernel_rfl
theorem st24 (h : Heap) (a : Addr) (v : Value) : storeV TT h 24 a v = if v.cells.size = 64 then hputs a h 0 v.cells.toList else none := by kernel_rfl
theorem ia25 (a : Addr) {i : Int} (h : 0 ≤ i ∧ i < 8) : idxAddrV TT 25 (.pointer (some a)) (.int .i64 i) = some (.pointer (some (a.add (i.toNat * 64)))) := idxAddr_arr (s := 64) (e := 24) (n := 8) (by kernel_rfl) (by kernel_rfl) h
theorem ix25 (cs : Array Value) {i : Int} (h : 0 ≤ i ∧ i < 8) : indexV TT 25 (.agg cs) (.int .i64 i) = some (.agg (cs.extract (i.toNat * 64) (i.toNat * 64 + 64))) := index_arrA (e := 24) (n := 8) (by kernel_rfl) (by kernel_rfl) h
theorem ln25 (v : Value) : lenV TT 25 v = some (.int .i64 8) := len_arr (e := 24) (n := 8) (by kernel_rfl)
theorem ld25 (h : Heap) (a : Addr) : loadV TT h 25 a = (hcells h a 0 512).map fun cs => .agg cs.toArray := by kernel_rfl
theorem st25 (h : Heap) (a : Addr) (v : Value) : storeV TT h 25 a v = if v.cells.size = 512 then hputs a h 0 v.cells.toList else none := by kernel_rfl
theorem fa26_0 (a : Addr) : fieldAddrV TT 26 (.pointer (some a)) 0 = some (.pointer (some (a.add 0))) := by kernel_rfl
theorem fa26_1 (a : Addr) : fieldAddrV TT 26 (.pointer (some a)) 1 = some (.pointer (some (a.add 1))) := by kernel_rfl
theorem fa26_2 (a : Addr) : fieldAddrV TT 26 (.pointer (some a)) 2 = some (.pointer (some (a.add 2))) := by kernel_rfl
theorem fa26_3 (a : Addr) : fieldAddrV TT 26 (.pointer (some a)) 3 = some (.pointer (some (a.add 10))) := by kernel_rfl
theorem fa26_4 (a : Addr) : fieldAddrV TT 26 (.pointer (some a)) 4 = some (.pointer (some (a.add 18))) := by kernel_rfl
theorem fa26_5 (a : Addr) : fieldAddrV TT 26 (.pointer (some a)) 5 = some (.pointer (some (a.add 82))) := by kernel_rfl
theorem ld26 (h : Heap) (a : Addr) : loadV TT h 26 a = (hcells h a 0 594).map fun cs => .agg cs.toArray := by kernel_rfl
theorem st26 (h : Heap) (a : Addr) (v : Value) : storeV TT h 26 a v = if v.cells.size = 594 then hputs a h 0 v.cells.toList else none := by kernel_rfl
theorem fa27_0 (a : Addr) : fieldAddrV TT 27 (.pointer (some a)) 0 = some (.pointer (some (a.add 0))) := by kernel_rfl
theorem fa27_1 (a : Addr) : fieldAddrV TT 27 (.pointer (some a)) 1 = some (.pointer (some (a.add 1))) := by kernel_rfl
theorem fa27_2 (a : Addr) : fieldAddrV TT 27 (.pointer (some a)) 2 = some (.pointer (some (a.add 2))) := by kernel_rfl
theorem fa27_3 (a : Addr) : fieldAddrV TT 27 (.pointer (some a)) 3 = some (.pointer (some (a.add 10))) := by kernel_rfl
theorem fa27_4 (a : Addr) : fieldAddrV TT 27 (.pointer (some a)) 4 = some (.pointer (some (a.add 18))) := by kernel_rfl
theorem fa27_5 (a : Addr) : fieldAddrV TT 27 (.pointer (some a)) 5 = some (.pointer (some (a.add 82))) := by kernel_rfl
theorem ld27 (h : Heap) (a : Addr) : loadV TT h 27 a = (hcells h a 0 594).map fun cs => .agg cs.toArray := by kernel_rfl
theorem st27 (h : Heap) (a : Addr) (v : Value) : storeV TT h 27 a v = if v.cells.size = 594 then hputs a h 0 v.cells.toList else none := by kernel_rfl
theorem ld29 (h : Heap) (a : Addr) : loadV TT h 29 a = hcell h a := by kernel_rfl
theorem st29 (h : Heap) (a : Addr) (v : Value) : storeV TT h 29 a v = if v.cells.size = 1 then hputs a h 0 v.cells.toList else none := by kernel_rfl
theorem ia30 (a : Addr) {i : Int} (h : 0 ≤ i ∧ i < 8) : idxAddrV TT 30 (.pointer (some a)) (.int .i64 i) = some (.pointer (some (a.add i.toNat))) := by rw [← Nat.mul_one i.toNat]; exact idxAddr_arr (s := 1) (e := 5) (n := 8) (by kernel_rfl) (by kernel_rfl) h
theorem ix30 (cs : Array Value) {i : Int} (h : 0 ≤ i ∧ i < 8) : indexV TT 30 (.agg cs) (.int .i64 i) = cs[i.toNat]? := index_arr1 (e := 5) (n := 8) (by kernel_rfl) (by kernel_rfl) h
theorem ln30 (v : Value) : lenV TT 30 v = some (.int .i64 8) := len_arr (e := 5) (n := 8) (by kernel_rfl)
theorem ld30 (h : Heap) (a : Addr) : loadV TT h 30 a = (hcells h a 0 8).map fun cs => .agg cs.toArray := by kernel_rfl
theorem st30 (h : Heap) (a : Addr) (v : Value) : storeV TT h 30 a v = if v.cells.size = 8 then hputs a h 0 v.cells.toList else none := by kernel_rfl
theorem ia31 (a : Addr) {i : Int} (h : 0 ≤ i ∧ i < 8) : idxAddrV TT 31 (.pointer (some a)) (.int .i64 i) = some (.pointer (some (a.add (i.toNat * 8)))) := idxAddr_arr (s := 8) (e := 30) (n := 8) (by kernel_rfl) (by kernel_rfl) h
theorem ix31 (cs : Array Value) {i : Int} (h : 0 ≤ i ∧ i < 8) : indexV TT 31 (.agg cs) (.int .i64 i) = some (.agg (cs.extract (i.toNat * 8) (i.toNat * 8 + 8))) := index_arrA (e := 30) (n := 8) (by kernel_rfl) (by kernel_rfl) h
theorem ln31 (v : Value) : lenV TT 31 v = some (.int .i64 8) := len_arr (e := 30) (n := 8) (by kernel_rfl)
theorem ld31 (h : Heap) (a : Addr) : loadV TT h 31 a = (hcells h a 0 64).map fun cs => .agg cs.toArray := by kernel_rfl
theorem st31 (h : Heap) (a : Addr) (v : Value) : storeV TT h 31 a v = if v.cells.size = 64 then hputs a h 0 v.cells.toList else none := by kernel_rfl
theorem ia32 (a : Addr) {i : Int} (h : 0 ≤ i ∧ i < 8) : idxAddrV TT 32 (.pointer (some a)) (.int .i64 i) = some (.pointer (some (a.add (i.toNat * 64)))) := idxAddr_arr (s := 64) (e := 31) (n := 8) (by kernel_rfl) (by kernel_rfl) h
theorem ix32 (cs : Array Value) {i : Int} (h : 0 ≤ i ∧ i < 8) : indexV TT 32 (.agg cs) (.int .i64 i) = some (.agg (cs.extract (i.toNat * 64) (i.toNat * 64 + 64))) := index_arrA (e := 31) (n := 8) (by kernel_rfl) (by kernel_rfl) h
theorem ln32 (v : Value) : lenV TT 32 v = some (.int .i64 8) := len_arr (e := 31) (n := 8) (by kernel_rfl)
theorem ld32 (h : Heap) (a : Addr) : loadV TT h 32 a = (hcells h a 0 512).map fun cs => .agg cs.toArray := by kernel_rfl
theorem st32 (h : Heap) (a : Addr) (v : Value) : storeV TT h 32 a v = if v.cells.size = 512 then hputs a h 0 v.cells.toList else none := by kernel_rfl
theorem fa33_0 (a : Addr) : fieldAddrV TT 33 (.pointer (some a)) 0 = some (.pointer (some (a.add 0))) := by kernel_rfl
theorem fa33_1 (a : Addr) : fieldAddrV TT 33 (.pointer (some a)) 1 = some (.pointer (some (a.add 1))) := by kernel_rfl
theorem fa33_2 (a : Addr) : fieldAddrV TT 33 (.pointer (some a)) 2 = some (.pointer (some (a.add 2))) := by kernel_rfl
theorem fa33_3 (a : Addr) : fieldAddrV TT 33 (.pointer (some a)) 3 = some (.pointer (some (a.add 10))) := by kernel_rfl
theorem fa33_4 (a : Addr) : fieldAddrV TT 33 (.pointer (some a)) 4 = some (.pointer (some (a.add 18))) := by kernel_rfl
theorem fa33_5 (a : Addr) : fieldAddrV TT 33 (.pointer (some a)) 5 = some (.pointer (some (a.add 82))) := by kernel_rfl
theorem ld33 (h : Heap) (a : Addr) : loadV TT h 33 a = (hcells h a 0 594).map fun cs => .agg cs.toArray := by kernel_rfl
theorem st33 (h : Heap) (a : Addr) (v : Value) : storeV TT h 33 a v = if v.cells.size = 594 then hputs a h 0 v.cells.toList else none := by kernel_rfl
theorem fa34_0 (a : Addr) : fieldAddrV TT 34 (.pointer (some a)) 0 = some (.pointer (some (a.add 0))) := by kernel_rfl
theorem fa34_1 (a : Addr) : fieldAddrV TT 34 (.pointer (some a)) 1 = some (.pointer (some (a.add 1))) := by kernel_rfl
theorem fa34_2 (a : Addr) : fieldAddrV TT 34 (.pointer (some a)) 2 = some (.pointer (some (a.add 2))) := by kernel_rfl
theorem fa34_3 (a : Addr) : fieldAddrV TT 34 (.pointer (some a)) 3 = some (.pointer (some (a.add 10))) := by kernel_rfl
theorem fa34_4 (a : Addr) : fieldAddrV TT 34 (.pointer (some a)) 4 = some (.pointer (some (a.add 18))) := by kernel_rfl
theorem fa34_5 (a : Addr) : fieldAddrV TT 34 (.pointer (some a)) 5 = some (.pointer (some (a.add 82))) := by kernel_rfl
theorem ld34 (h : Heap) (a : Addr) : loadV TT h 34 a = (hcells h a 0 594).map fun cs => .agg cs.toArray := by kernel_rfl
theorem st34 (h : Heap) (a : Addr) (v : Value) : storeV TT h 34 a v = if v.cells.size = 594 then hputs a h 0 v.cells.toList else none := by kernel_rfl
theorem ld35 (h : Heap) (a : Addr) : loadV TT h 35 a = hcell h a := by kernel_rfl
theorem st35 (h : Heap) (a : Addr) (v : Value) : storeV TT h 35 a v = if v.cells.size = 1 then hputs a h 0 v.cells.toList else none := by kernel_rfl
theorem ld36 (h : Heap) (a : Addr) : loadV TT h 36 a = hcell h a := by kernel_rfl
theorem st36 (h : Heap) (a : Addr) (v : Value) : storeV TT h 36 a v = if v.cells.size = 1 then hputs a h 0 v.cells.toList else none := by kernel_rfl
theorem T37 : TT 37 = some ⟨.slice 5, 1, 24, (.slice none 0 0)⟩ := by kernel_rfl
theorem ld37 (h : Heap) (a : Addr) : loadV TT h 37 a = hcell h a := by kernel_rfl
theorem st37 (h : Heap) (a : Addr) (v : Value) : storeV TT h 37 a v = if v.cells.size = 1 then hputs a h 0 v.cells.toList else none := by kernel_rfl
theorem ld38 (h : Heap) (a : Addr) : loadV TT h 38 a = hcell h a := by kernel_rfl
theorem st38 (h : Heap) (a : Addr) (v : Value) : storeV TT h 38 a v = if v.cells.size = 1 then hputs a h 0 v.cells.toList else none := by kernel_rfl
theorem ld40 (h : Heap) (a : Addr) : loadV TT h 40 a = hcell h a := by kernel_rfl
theorem st40 (h : Heap) (a : Addr) (v : Value) : storeV TT h 40 a v = if v.cells.size = 1 then hputs a h 0 v.cells.toList else none := by kernel_rfl
theorem ld42 (h : Heap) (a : Addr) : loadV TT h 42 a = hcell h a := by kernel_rfl
theorem st42 (h : Heap) (a : Addr) (v : Value) : storeV TT h 42 a v = if v.cells.size = 1 then hputs a h 0 v.cells.toList else none := by kernel_rfl
theorem ld43 (h : Heap) (a : Addr) : loadV TT h 43 a = hcell h a := by kernel_rfl
theorem st43 (h : Heap) (a : Addr) (v : Value) : storeV TT h 43 a v = if v.cells.size = 1 then hputs a h 0 v.cells.toList else none := by kernel_rfl
theorem ld45 (h : Heap) (a : Addr) : loadV TT h 45 a = hcell h a := by kernel_rfl
theorem st45 (h : Heap) (a : Addr) (v : Value) : storeV TT h 45 a v = if v.cells.size = 1 then hputs a h 0 v.cells.toList else none := by kernel_rfl
theorem ld46 (h : Heap) (a : Addr) : loadV TT h 46 a = hcell h a := by kernel_rfl
theorem st46 (h : Heap) (a : Addr) (v : Value) : storeV TT h 46 a v = if v.cells.size = 1 then hputs a h 0 v.cells.toList else none := by kernel_rfl
theorem ld48 (h : Heap) (a : Addr) : loadV TT h 48 a = hcell h a := by kernel_rfl
theorem st48 (h : Heap) (a : Addr) (v : Value) : storeV TT h 48 a v = if v.cells.size = 1 then hputs a h 0 v.cells.toList else none := by kernel_rfl
theorem ld50 (h : Heap) (a : Addr) : loadV TT h 50 a = hcell h a := by kernel_rfl
theorem st50 (h : Heap) (a : Addr) (v : Value) : storeV TT h 50 a v = if v.cells.size = 1 then hputs a h 0 v.cells.toList else none := by kernel_rfl
theorem ld52 (h : Heap) (a : Addr) : loadV TT h 52 a = hcell h a := by kernel_rfl
theorem st52 (h : Heap) (a : Addr) (v : Value) : storeV TT h 52 a v = if v.cells.size = 1 then hputs a h 0 v.cells.toList else none := by kernel_rfl
theorem ld53 (h : Heap) (a : Addr) : loadV TT h 53 a = hcell h a := by kernel_rfl
theorem st53 (h : Heap) (a : Addr) (v : Value) : storeV TT h 53 a v = if v.cells.size = 1 then hputs a h 0 v.cells.toList else none := by kernel_rfl
theorem ld54 (h : Heap) (a : Addr) : loadV TT h 54 a = hcell h a := by kernel_rfl
theorem st54 (h : Heap) (a : Addr) (v : Value) : storeV TT h 54 a v = if v.cells.size = 1 then hputs a h 0 v.cells.toList else none := by kernel_rfl
theorem T55 : TT 55 = some ⟨.slice 2, 1, 24, (.slice none 0 0)⟩ := by kernel_rfl
theorem ld55 (h : Heap) (a : Addr) : loadV TT h 55 a = hcell h a := by kernel_rfl
theorem st55 (h : Heap) (a : Addr) (v : Value) : storeV TT h 55 a v = if v.cells.size = 1 then hputs a h 0 v.cells.toList else none := by kernel_rfl
theorem T56 : TT 56 = some ⟨.slice 59, 1, 24, (.slice none 0 0)⟩ := by kernel_rfl
theorem ld56 (h : Heap) (a : Addr) : loadV TT h 56 a = hcell h a := by kernel_rfl
theorem st56 (h : Heap) (a : Addr) (v : Value) : storeV TT h 56 a v = if v.cells.size = 1 then hputs a h 0 v.cells.toList else none := by kernel_rfl
theorem fa57_0 (a : Addr) : fieldAddrV TT 57 (.pointer (some a)) 0 = some (.pointer (some (a.add 0))) := by kernel_rfl
theorem fa57_1 (a : Addr) : fieldAddrV TT 57 (.pointer (some a)) 1 = some (.pointer (some (a.add 1))) := by kernel_rfl
theorem fa57_2 (a : Addr) : fieldAddrV TT 57 (.pointer (some a)) 2 = some (.pointer (some (a.add 2))) := by kernel_rfl
theorem ld57 (h : Heap) (a : Addr) : loadV TT h 57 a = (hcells h a 0 3).map fun cs => .agg cs.toArray := by kernel_rfl
theorem st57 (h : Heap) (a : Addr) (v : Value) : storeV TT h 57 a v = if v.cells.size = 3 then hputs a h 0 v.cells.toList else none := by kernel_rfl
noncomputable def d57 : TypeDesc := (Try.prog.underlying 57).getD .bool
theorem T57 : TT 57 = some ⟨d57, 3, 56, .agg #[(.int .i64 0), (.slice none 0 0), (.slice none 0 0)]⟩ := by kernel_rfl
theorem fd57_0 (v0 v1 v2 : Value) : fieldV TT 57 (.agg #[v0, v1, v2]) 0 = some v0 := by kernel_rfl
theorem fd57_1 (v0 v1 v2 : Value) : fieldV TT 57 (.agg #[v0, v1, v2]) 1 = some v1 := by kernel_rfl
theorem fd57_2 (v0 v1 v2 : Value) : fieldV TT 57 (.agg #[v0, v1, v2]) 2 = some v2 := by kernel_rfl
theorem fa58_0 (a : Addr) : fieldAddrV TT 58 (.pointer (some a)) 0 = some (.pointer (some (a.add 0))) := by kernel_rfl
theorem fa58_1 (a : Addr) : fieldAddrV TT 58 (.pointer (some a)) 1 = some (.pointer (some (a.add 1))) := by kernel_rfl
theorem fa58_2 (a : Addr) : fieldAddrV TT 58 (.pointer (some a)) 2 = some (.pointer (some (a.add 2))) := by kernel_rfl
theorem ld58 (h : Heap) (a : Addr) : loadV TT h 58 a = (hcells h a 0 3).map fun cs => .agg cs.toArray := by kernel_rfl
theorem st58 (h : Heap) (a : Addr) (v : Value) : storeV TT h 58 a v = if v.cells.size = 3 then hputs a h 0 v.cells.toList else none := by kernel_rfl
noncomputable def d58 : TypeDesc := (Try.prog.underlying 58).getD .bool
theorem T58 : TT 58 = some ⟨d58, 3, 56, .agg #[(.int .i64 0), (.slice none 0 0), (.slice none 0 0)]⟩ := by kernel_rfl
theorem fd58_0 (v0 v1 v2 : Value) : fieldV TT 58 (.agg #[v0, v1, v2]) 0 = some v0 := by kernel_rfl
theorem fd58_1 (v0 v1 v2 : Value) : fieldV TT 58 (.agg #[v0, v1, v2]) 1 = some v1 := by kernel_rfl
theorem fd58_2 (v0 v1 v2 : Value) : fieldV TT 58 (.agg #[v0, v1, v2]) 2 = some v2 := by kernel_rfl
theorem T59 : TT 59 = some ⟨.slice 55, 1, 24, (.slice none 0 0)⟩ := by kernel_rfl
theorem ld59 (h : Heap) (a : Addr) : loadV TT h 59 a = hcell h a := by kernel_rfl
theorem st59 (h : Heap) (a : Addr) (v : Value) : storeV TT h 59 a v = if v.cells.size = 1 then hputs a h 0 v.cells.toList else none := by kernel_rfl
theorem fa60_0 (a : Addr) : fieldAddrV TT 60 (.pointer (some a)) 0 = some (.pointer (some (a.add 0))) := by kernel_rfl
theorem fa60_1 (a : Addr) : fieldAddrV TT 60 (.pointer (some a)) 1 = some (.pointer (some (a.add 3))) := by kernel_rfl
theorem ld60 (h : Heap) (a : Addr) : loadV TT h 60 a = (hcells h a 0 4).map fun cs => .agg cs.toArray := by kernel_rfl
theorem st60 (h : Heap) (a : Addr) (v : Value) : storeV TT h 60 a v = if v.cells.size = 4 then hputs a h 0 v.cells.toList else none := by kernel_rfl
noncomputable def d60 : TypeDesc := (Try.prog.underlying 60).getD .bool
theorem T60 : TT 60 = some ⟨d60, 4, 80, .agg #[(.int .i64 0), (.slice none 0 0), (.slice none 0 0), (.slice none 0 0)]⟩ := by kernel_rfl
theorem fa61_0 (a : Addr) : fieldAddrV TT 61 (.pointer (some a)) 0 = some (.pointer (some (a.add 0))) := by kernel_rfl
theorem fa61_1 (a : Addr) : fieldAddrV TT 61 (.pointer (some a)) 1 = some (.pointer (some (a.add 3))) := by kernel_rfl
theorem ld61 (h : Heap) (a : Addr) : loadV TT h 61 a = (hcells h a 0 4).map fun cs => .agg cs.toArray := by kernel_rfl
theorem st61 (h : Heap) (a : Addr) (v : Value) : storeV TT h 61 a v = if v.cells.size = 4 then hputs a h 0 v.cells.toList else none := by kernel_rfl
noncomputable def d61 : TypeDesc := (Try.prog.underlying 61).getD .bool
theorem T61 : TT 61 = some ⟨d61, 4, 80, .agg #[(.int .i64 0), (.slice none 0 0), (.slice none 0 0), (.slice none 0 0)]⟩ := by kernel_rfl
theorem ld63 (h : Heap) (a : Addr) : loadV TT h 63 a = hcell h a := by kernel_rfl
theorem st63 (h : Heap) (a : Addr) (v : Value) : storeV TT h 63 a v = if v.cells.size = 1 then hputs a h 0 v.cells.toList else none := by kernel_rfl
theorem ld64 (h : Heap) (a : Addr) : loadV TT h 64 a = hcell h a := by kernel_rfl
theorem st64 (h : Heap) (a : Addr) (v : Value) : storeV TT h 64 a v = if v.cells.size = 1 then hputs a h 0 v.cells.toList else none := by kernel_rfl
theorem ld65 (h : Heap) (a : Addr) : loadV TT h 65 a = hcell h a := by kernel_rfl
theorem st65 (h : Heap) (a : Addr) (v : Value) : storeV TT h 65 a v = if v.cells.size = 1 then hputs a h 0 v.cells.toList else none := by kernel_rfl
theorem ld66 (h : Heap) (a : Addr) : loadV TT h 66 a = hcell h a := by kernel_rfl
theorem st66 (h : Heap) (a : Addr) (v : Value) : storeV TT h 66 a v = if v.cells.size = 1 then hputs a h 0 v.cells.toList else none := by kernel_rfl
theorem ld67 (h : Heap) (a : Addr) : loadV TT h 67 a = hcell h a := by kernel_rfl
theorem st67 (h : Heap) (a : Addr) (v : Value) : storeV TT h 67 a v = if v.cells.size = 1 then hputs a h 0 v.cells.toList else none := by kernel_rfl
theorem ld69 (h : Heap) (a : Addr) : loadV TT h 69 a = hcell h a := by kernel_rfl
theorem st69 (h : Heap) (a : Addr) (v : Value) : storeV TT h 69 a v = if v.cells.size = 1 then hputs a h 0 v.cells.toList else none := by kernel_rfl
theorem ld70 (h : Heap) (a : Addr) : loadV TT h 70 a = hcell h a := by kernel_rfl
theorem st70 (h : Heap) (a : Addr) (v : Value) : storeV TT h 70 a v = if v.cells.size = 1 then hputs a h 0 v.cells.toList else none := by kernel_rfl
theorem ld71 (h : Heap) (a : Addr) : loadV TT h 71 a = hcell h a := by kernel_rfl
theorem st71 (h : Heap) (a : Addr) (v : Value) : storeV TT h 71 a v = if v.cells.size = 1 then hputs a h 0 v.cells.toList else none := by kernel_rfl
theorem ld72 (h : Heap) (a : Addr) : loadV TT h 72 a = hcell h a := by kernel_rfl
theorem st72 (h : Heap) (a : Addr) (v : Value) : storeV TT h 72 a v = if v.cells.size = 1 then hputs a h 0 v.cells.toList else none := by kernel_rfl
theorem ld73 (h : Heap) (a : Addr) : loadV TT h 73 a = hcell h a := by kernel_rfl
theorem st73 (h : Heap) (a : Addr) (v : Value) : storeV TT h 73 a v = if v.cells.size = 1 then hputs a h 0 v.cells.toList else none := by kernel_rfl
theorem ld74 (h : Heap) (a : Addr) : loadV TT h 74 a = hcell h a := by kernel_rfl
theorem st74 (h : Heap) (a : Addr) (v : Value) : storeV TT h 74 a v = if v.cells.size = 1 then hputs a h 0 v.cells.toList else none := by kernel_rfl
theorem ld75 (h : Heap) (a : Addr) : loadV TT h 75 a = hcell h a := by kernel_rfl
theorem st75 (h : Heap) (a : Addr) (v : Value) : storeV TT h 75 a v = if v.cells.size = 1 then hputs a h 0 v.cells.toList else none := by kernel_rfl
theorem ld76 (h : Heap) (a : Addr) : loadV TT h 76 a = hcell h a := by kernel_rfl
theorem st76 (h : Heap) (a : Addr) (v : Value) : storeV TT h 76 a v = if v.cells.size = 1 then hputs a h 0 v.cells.toList else none := by kernel_rfl
theorem ld77 (h : Heap) (a : Addr) : loadV TT h 77 a = hcell h a := by kernel_rfl
theorem st77 (h : Heap) (a : Addr) (v : Value) : storeV TT h 77 a v = if v.cells.size = 1 then hputs a h 0 v.cells.toList else none := by kernel_rfl
theorem ld78 (h : Heap) (a : Addr) : loadV TT h 78 a = hcell h a := by kernel_rfl
theorem st78 (h : Heap) (a : Addr) (v : Value) : storeV TT h 78 a v = if v.cells.size = 1 then hputs a h 0 v.cells.toList else none := by kernel_rfl
theorem ld79 (h : Heap) (a : Addr) : loadV TT h 79 a = hcell h a := by kernel_rfl
theorem st79 (h : Heap) (a : Addr) (v : Value) : storeV TT h 79 a v = if v.cells.size = 1 then hputs a h 0 v.cells.toList else none := by kernel_rfl
theorem ld80 (h : Heap) (a : Addr) : loadV TT h 80 a = hcell h a := by kernel_rfl
theorem st80 (h : Heap) (a : Addr) (v : Value) : storeV TT h 80 a v = if v.cells.size = 1 then hputs a h 0 v.cells.toList else none := by kernel_rfl
theorem ld81 (h : Heap) (a : Addr) : loadV TT h 81 a = hcell h a := by kernel_rfl
theorem st81 (h : Heap) (a : Addr) (v : Value) : storeV TT h 81 a v = if v.cells.size = 1 then hputs a h 0 v.cells.toList else none := by kernel_rfl
theorem ld82 (h : Heap) (a : Addr) : loadV TT h 82 a = hcell h a := by kernel_rfl
theorem st82 (h : Heap) (a : Addr) (v : Value) : storeV TT h 82 a v = if v.cells.size = 1 then hputs a h 0 v.cells.toList else none := by kernel_rfl
theorem ld83 (h : Heap) (a : Addr) : loadV TT h 83 a = hcell h a := by kernel_rfl
theorem st83 (h : Heap) (a : Addr) (v : Value) : storeV TT h 83 a v = if v.cells.size = 1 then hputs a h 0 v.cells.toList else none := by kernel_rfl
theorem ld84 (h : Heap) (a : Addr) : loadV TT h 84 a = hcell h a := by kernel_rfl
theorem st84 (h : Heap) (a : Addr) (v : Value) : storeV TT h 84 a v = if v.cells.size = 1 then hputs a h 0 v.cells.toList else none := by kernel_rfl
theorem ld85 (h : Heap) (a : Addr) : loadV TT h 85 a = hcell h a := by kernel_rfl
theorem st85 (h : Heap) (a : Addr) (v : Value) : storeV TT h 85 a v = if v.cells.size = 1 then hputs a h 0 v.cells.toList else none := by kernel_rfl
theorem ld86 (h : Heap) (a : Addr) : loadV TT h 86 a = hcell h a := by kernel_rfl
theorem st86 (h : Heap) (a : Addr) (v : Value) : storeV TT h 86 a v = if v.cells.size = 1 then hputs a h 0 v.cells.toList else none := by kernel_rfl
theorem ld87 (h : Heap) (a : Addr) : loadV TT h 87 a = hcell h a := by kernel_rfl
theorem st87 (h : Heap) (a : Addr) (v : Value) : storeV TT h 87 a v = if v.cells.size = 1 then hputs a h 0 v.cells.toList else none := by kernel_rfl
theorem ld88 (h : Heap) (a : Addr) : loadV TT h 88 a = hcell h a := by kernel_rfl
theorem st88 (h : Heap) (a : Addr) (v : Value) : storeV TT h 88 a v = if v.cells.size = 1 then hputs a h 0 v.cells.toList else none := by kernel_rfl
theorem T89 : TT 89 = some ⟨.slice 9, 1, 24, (.slice none 0 0)⟩ := by kernel_rfl
theorem ld89 (h : Heap) (a : Addr) : loadV TT h 89 a = hcell h a := by kernel_rfl
theorem st89 (h : Heap) (a : Addr) (v : Value) : storeV TT h 89 a v = if v.cells.size = 1 then hputs a h 0 v.cells.toList else none := by kernel_rfl
theorem ld90 (h : Heap) (a : Addr) : loadV TT h 90 a = hcell h a := by kernel_rfl
theorem st90 (h : Heap) (a : Addr) (v : Value) : storeV TT h 90 a v = if v.cells.size = 1 then hputs a h 0 v.cells.toList else none := by kernel_rfl
theorem ld91 (h : Heap) (a : Addr) : loadV TT h 91 a = hcell h a := by kernel_rfl
theorem st91 (h : Heap) (a : Addr) (v : Value) : storeV TT h 91 a v = if v.cells.size = 1 then hputs a h 0 v.cells.toList else none := by kernel_rfl
theorem ld92 (h : Heap) (a : Addr) : loadV TT h 92 a = hcell h a := by kernel_rfl
theorem st92 (h : Heap) (a : Addr) (v : Value) : storeV TT h 92 a v = if v.cells.size = 1 then hputs a h 0 v.cells.toList else none := by kernel_rfl
theorem ld93 (h : Heap) (a : Addr) : loadV TT h 93 a = hcell h a := by kernel_rfl
theorem st93 (h : Heap) (a : Addr) (v : Value) : storeV TT h 93 a v = if v.cells.size = 1 then hputs a h 0 v.cells.toList else none := by kernel_rfl
theorem ld95 (h : Heap) (a : Addr) : loadV TT h 95 a = hcell h a := by kernel_rfl
theorem st95 (h : Heap) (a : Addr) (v : Value) : storeV TT h 95 a v = if v.cells.size = 1 then hputs a h 0 v.cells.toList else none := by kernel_rfl
theorem T96 : TT 96 = some ⟨.slice 98, 1, 24, (.slice none 0 0)⟩ := by kernel_rfl
theorem ld96 (h : Heap) (a : Addr) : loadV TT h 96 a = hcell h a := by kernel_rfl
theorem st96 (h : Heap) (a : Addr) (v : Value) : storeV TT h 96 a v = if v.cells.size = 1 then hputs a h 0 v.cells.toList else none := by kernel_rfl
theorem fa97_0 (a : Addr) : fieldAddrV TT 97 (.pointer (some a)) 0 = some (.pointer (some (a.add 0))) := by kernel_rfl
theorem fa97_1 (a : Addr) : fieldAddrV TT 97 (.pointer (some a)) 1 = some (.pointer (some (a.add 1))) := by kernel_rfl
theorem ld97 (h : Heap) (a : Addr) : loadV TT h 97 a = (hcells h a 0 2).map fun cs => .agg cs.toArray := by kernel_rfl
theorem st97 (h : Heap) (a : Addr) (v : Value) : storeV TT h 97 a v = if v.cells.size = 2 then hputs a h 0 v.cells.toList else none := by kernel_rfl
noncomputable def d97 : TypeDesc := (Try.prog.underlying 97).getD .bool
theorem T97 : TT 97 = some ⟨d97, 2, 16, .agg #[(.int .i64 0), (.int .i64 0)]⟩ := by kernel_rfl
theorem fd97_0 (v0 v1 : Value) : fieldV TT 97 (.agg #[v0, v1]) 0 = some v0 := by kernel_rfl
theorem fd97_1 (v0 v1 : Value) : fieldV TT 97 (.agg #[v0, v1]) 1 = some v1 := by kernel_rfl
theorem fa98_0 (a : Addr) : fieldAddrV TT 98 (.pointer (some a)) 0 = some (.pointer (some (a.add 0))) := by kernel_rfl
theorem fa98_1 (a : Addr) : fieldAddrV TT 98 (.pointer (some a)) 1 = some (.pointer (some (a.add 1))) := by kernel_rfl
theorem ld98 (h : Heap) (a : Addr) : loadV TT h 98 a = (hcells h a 0 2).map fun cs => .agg cs.toArray := by kernel_rfl
theorem st98 (h : Heap) (a : Addr) (v : Value) : storeV TT h 98 a v = if v.cells.size = 2 then hputs a h 0 v.cells.toList else none := by kernel_rfl
noncomputable def d98 : TypeDesc := (Try.prog.underlying 98).getD .bool
theorem T98 : TT 98 = some ⟨d98, 2, 16, .agg #[(.int .i64 0), (.int .i64 0)]⟩ := by kernel_rfl
theorem fd98_0 (v0 v1 : Value) : fieldV TT 98 (.agg #[v0, v1]) 0 = some v0 := by kernel_rfl
theorem fd98_1 (v0 v1 : Value) : fieldV TT 98 (.agg #[v0, v1]) 1 = some v1 := by kernel_rfl
theorem ld99 (h : Heap) (a : Addr) : loadV TT h 99 a = hcell h a := by kernel_rfl
theorem st99 (h : Heap) (a : Addr) (v : Value) : storeV TT h 99 a v = if v.cells.size = 1 then hputs a h 0 v.cells.toList else none := by kernel_rfl
theorem ld100 (h : Heap) (a : Addr) : loadV TT h 100 a = hcell h a := by kernel_rfl
theorem st100 (h : Heap) (a : Addr) (v : Value) : storeV TT h 100 a v = if v.cells.size = 1 then hputs a h 0 v.cells.toList else none := by kernel_rfl
theorem ld101 (h : Heap) (a : Addr) : loadV TT h 101 a = hcell h a := by kernel_rfl
theorem st101 (h : Heap) (a : Addr) (v : Value) : storeV TT h 101 a v = if v.cells.size = 1 then hputs a h 0 v.cells.toList else none := by kernel_rfl
theorem ld102 (h : Heap) (a : Addr) : loadV TT h 102 a = hcell h a := by kernel_rfl
theorem st102 (h : Heap) (a : Addr) (v : Value) : storeV TT h 102 a v = if v.cells.size = 1 then hputs a h 0 v.cells.toList else none := by kernel_rfl
theorem ld103 (h : Heap) (a : Addr) : loadV TT h 103 a = hcell h a := by kernel_rfl
theorem st103 (h : Heap) (a : Addr) (v : Value) : storeV TT h 103 a v = if v.cells.size = 1 then hputs a h 0 v.cells.toList else none := by kernel_rfl
theorem ld104 (h : Heap) (a : Addr) : loadV TT h 104 a = hcell h a := by kernel_rfl
theorem st104 (h : Heap) (a : Addr) (v : Value) : storeV TT h 104 a v = if v.cells.size = 1 then hputs a h 0 v.cells.toList else none := by kernel_rfl
theorem ld105 (h : Heap) (a : Addr) : loadV TT h 105 a = hcell h a := by kernel_rfl
theorem st105 (h : Heap) (a : Addr) (v : Value) : storeV TT h 105 a v = if v.cells.size = 1 then hputs a h 0 v.cells.toList else none := by kernel_rfl
theorem ld106 (h : Heap) (a : Addr) : loadV TT h 106 a = hcell h a := by kernel_rfl
theorem st106 (h : Heap) (a : Addr) (v : Value) : storeV TT h 106 a v = if v.cells.size = 1 then hputs a h 0 v.cells.toList else none := by kernel_rfl
theorem ld107 (h : Heap) (a : Addr) : loadV TT h 107 a = hcell h a := by kernel_rfl
theorem st107 (h : Heap) (a : Addr) (v : Value) : storeV TT h 107 a v = if v.cells.size = 1 then hputs a h 0 v.cells.toList else none := by kernel_rfl
theorem ld108 (h : Heap) (a : Addr) : loadV TT h 108 a = hcell h a := by kernel_rfl
theorem st108 (h : Heap) (a : Addr) (v : Value) : storeV TT h 108 a v = if v.cells.size = 1 then hputs a h 0 v.cells.toList else none := by kernel_rfl
theorem ld109 (h : Heap) (a : Addr) : loadV TT h 109 a = hcell h a := by kernel_rfl
theorem st109 (h : Heap) (a : Addr) (v : Value) : storeV TT h 109 a v = if v.cells.size = 1 then hputs a h 0 v.cells.toList else none := by kernel_rfl
theorem ld110 (h : Heap) (a : Addr) : loadV TT h 110 a = hcell h a := by kernel_rfl
theorem st110 (h : Heap) (a : Addr) (v : Value) : storeV TT h 110 a v = if v.cells.size = 1 then hputs a h 0 v.cells.toList else none := by kernel_rfl
theorem ld111 (h : Heap) (a : Addr) : loadV TT h 111 a = hcell h a := by kernel_rfl
theorem st111 (h : Heap) (a : Addr) (v : Value) : storeV TT h 111 a v = if v.cells.size = 1 then hputs a h 0 v.cells.toList else none := by kernel_rfl
theorem ld112 (h : Heap) (a : Addr) : loadV TT h 112 a = hcell h a := by kernel_rfl
theorem st112 (h : Heap) (a : Addr) (v : Value) : storeV TT h 112 a v = if v.cells.size = 1 then hputs a h 0 v.cells.toList else none := by kernel_rfl
theorem ld113 (h : Heap) (a : Addr) : loadV TT h 113 a = hcell h a := by kernel_rfl
theorem st113 (h : Heap) (a : Addr) (v : Value) : storeV TT h 113 a v = if v.cells.size = 1 then hputs a h 0 v.cells.toList else none := by kernel_rfl
theorem ld114 (h : Heap) (a : Addr) : loadV TT h 114 a = hcell h a := by kernel_rfl
theorem st114 (h : Heap) (a : Addr) (v : Value) : storeV TT h 114 a v = if v.cells.size = 1 then hputs a h 0 v.cells.toList else none := by kernel_rfl
theorem ld115 (h : Heap) (a : Addr) : loadV TT h 115 a = hcell h a := by kernel_rfl
theorem st115 (h : Heap) (a : Addr) (v : Value) : storeV TT h 115 a v = if v.cells.size = 1 then hputs a h 0 v.cells.toList else none := by kernel_rfl
theorem ld116 (h : Heap) (a : Addr) : loadV TT h 116 a = hcell h a := by kernel_rfl
theorem st116 (h : Heap) (a : Addr) (v : Value) : storeV TT h 116 a v = if v.cells.size = 1 then hputs a h 0 v.cells.toList else none := by kernel_rfl
theorem T117 : TT 117 = some ⟨.slice 30, 1, 24, (.slice none 0 0)⟩ := by kernel_rfl
theorem ld117 (h : Heap) (a : Addr) : loadV TT h 117 a = hcell h a := by kernel_rfl
theorem st117 (h : Heap) (a : Addr) (v : Value) : storeV TT h 117 a v = if v.cells.size = 1 then hputs a h 0 v.cells.toList else none := by kernel_rfl
theorem ld118 (h : Heap) (a : Addr) : loadV TT h 118 a = hcell h a := by kernel_rfl
theorem st118 (h : Heap) (a : Addr) (v : Value) : storeV TT h 118 a v = if v.cells.size = 1 then hputs a h 0 v.cells.toList else none := by kernel_rfl
theorem ld119 (h : Heap) (a : Addr) : loadV TT h 119 a = hcell h a := by kernel_rfl
theorem st119 (h : Heap) (a : Addr) (v : Value) : storeV TT h 119 a v = if v.cells.size = 1 then hputs a h 0 v.cells.toList else none := by kernel_rfl
theorem T120 : TT 120 = some ⟨.int .u64, 1, 8, (.int .u64 0)⟩ := by kernel_rfl
theorem ld120 (h : Heap) (a : Addr) : loadV TT h 120 a = hcell h a := by kernel_rfl
theorem st120 (h : Heap) (a : Addr) (v : Value) : storeV TT h 120 a v = if v.cells.size = 1 then hputs a h 0 v.cells.toList else none := by kernel_rfl
theorem fa121_0 (a : Addr) : fieldAddrV TT 121 (.pointer (some a)) 0 = some (.pointer (some (a.add 0))) := by kernel_rfl
theorem fa121_1 (a : Addr) : fieldAddrV TT 121 (.pointer (some a)) 1 = some (.pointer (some (a.add 1))) := by kernel_rfl
theorem fa121_2 (a : Addr) : fieldAddrV TT 121 (.pointer (some a)) 2 = some (.pointer (some (a.add 2))) := by kernel_rfl
theorem ld121 (h : Heap) (a : Addr) : loadV TT h 121 a = (hcells h a 0 3).map fun cs => .agg cs.toArray := by kernel_rfl
theorem st121 (h : Heap) (a : Addr) (v : Value) : storeV TT h 121 a v = if v.cells.size = 3 then hputs a h 0 v.cells.toList else none := by kernel_rfl
noncomputable def d121 : TypeDesc := (Try.prog.underlying 121).getD .bool
theorem T121 : TT 121 = some ⟨d121, 3, 40, .agg #[(.slice none 0 0), (.int .i64 0), (.int .u64 0)]⟩ := by kernel_rfl
theorem fd121_0 (v0 v1 v2 : Value) : fieldV TT 121 (.agg #[v0, v1, v2]) 0 = some v0 := by kernel_rfl
theorem fd121_1 (v0 v1 v2 : Value) : fieldV TT 121 (.agg #[v0, v1, v2]) 1 = some v1 := by kernel_rfl
theorem fd121_2 (v0 v1 v2 : Value) : fieldV TT 121 (.agg #[v0, v1, v2]) 2 = some v2 := by kernel_rfl
theorem fa122_0 (a : Addr) : fieldAddrV TT 122 (.pointer (some a)) 0 = some (.pointer (some (a.add 0))) := by kernel_rfl
theorem fa122_1 (a : Addr) : fieldAddrV TT 122 (.pointer (some a)) 1 = some (.pointer (some (a.add 1))) := by kernel_rfl
theorem fa122_2 (a : Addr) : fieldAddrV TT 122 (.pointer (some a)) 2 = some (.pointer (some (a.add 2))) := by kernel_rfl
theorem ld122 (h : Heap) (a : Addr) : loadV TT h 122 a = (hcells h a 0 3).map fun cs => .agg cs.toArray := by kernel_rfl
theorem st122 (h : Heap) (a : Addr) (v : Value) : storeV TT h 122 a v = if v.cells.size = 3 then hputs a h 0 v.cells.toList else none := by kernel_rfl
noncomputable def d122 : TypeDesc := (Try.prog.underlying 122).getD .bool
theorem T122 : TT 122 = some ⟨d122, 3, 40, .agg #[(.slice none 0 0), (.int .i64 0), (.int .u64 0)]⟩ := by kernel_rfl
theorem fd122_0 (v0 v1 v2 : Value) : fieldV TT 122 (.agg #[v0, v1, v2]) 0 = some v0 := by kernel_rfl
theorem fd122_1 (v0 v1 v2 : Value) : fieldV TT 122 (.agg #[v0, v1, v2]) 1 = some v1 := by kernel_rfl
theorem fd122_2 (v0 v1 v2 : Value) : fieldV TT 122 (.agg #[v0, v1, v2]) 2 = some v2 := by kernel_rfl
theorem ld123 (h : Heap) (a : Addr) : loadV TT h 123 a = hcell h a := by kernel_rfl
theorem st123 (h : Heap) (a : Addr) (v : Value) : storeV TT h 123 a v = if v.cells.size = 1 then hputs a h 0 v.cells.toList else none := by kernel_rfl
theorem ld124 (h : Heap) (a : Addr) : loadV TT h 124 a = hcell h a := by kernel_rfl
theorem st124 (h : Heap) (a : Addr) (v : Value) : storeV TT h 124 a v = if v.cells.size = 1 then hputs a h 0 v.cells.toList else none := by kernel_rfl
theorem T125 : TT 125 = some ⟨.int .u64, 1, 8, (.int .u64 0)⟩ := by kernel_rfl
theorem ld125 (h : Heap) (a : Addr) : loadV TT h 125 a = hcell h a := by kernel_rfl
theorem st125 (h : Heap) (a : Addr) (v : Value) : storeV TT h 125 a v = if v.cells.size = 1 then hputs a h 0 v.cells.toList else none := by kernel_rfl
theorem ld126 (h : Heap) (a : Addr) : loadV TT h 126 a = hcell h a := by kernel_rfl
theorem st126 (h : Heap) (a : Addr) (v : Value) : storeV TT h 126 a v = if v.cells.size = 1 then hputs a h 0 v.cells.toList else none := by kernel_rfl
theorem ld127 (h : Heap) (a : Addr) : loadV TT h 127 a = hcell h a := by kernel_rfl
theorem st127 (h : Heap) (a : Addr) (v : Value) : storeV TT h 127 a v = if v.cells.size = 1 then hputs a h 0 v.cells.toList else none := by kernel_rfl
theorem ld128 (h : Heap) (a : Addr) : loadV TT h 128 a = hcell h a := by kernel_rfl
theorem st128 (h : Heap) (a : Addr) (v : Value) : storeV TT h 128 a v = if v.cells.size = 1 then hputs a h 0 v.cells.toList else none := by kernel_rfl
theorem ld129 (h : Heap) (a : Addr) : loadV TT h 129 a = hcell h a := by kernel_rfl
theorem st129 (h : Heap) (a : Addr) (v : Value) : storeV TT h 129 a v = if v.cells.size = 1 then hputs a h 0 v.cells.toList else none := by kernel_rfl
theorem ld130 (h : Heap) (a : Addr) : loadV TT h 130 a = hcell h a := by kernel_rfl
theorem st130 (h : Heap) (a : Addr) (v : Value) : storeV TT h 130 a v = if v.cells.size = 1 then hputs a h 0 v.cells.toList else none := by kernel_rfl
theorem ld131 (h : Heap) (a : Addr) : loadV TT h 131 a = hcell h a := by kernel_rfl
theorem st131 (h : Heap) (a : Addr) (v : Value) : storeV TT h 131 a v = if v.cells.size = 1 then hputs a h 0 v.cells.toList else none := by kernel_rfl
theorem ld132 (h : Heap) (a : Addr) : loadV TT h 132 a = hcell h a := by kernel_rfl
theorem st132 (h : Heap) (a : Addr) (v : Value) : storeV TT h 132 a v = if v.cells.size = 1 then hputs a h 0 v.cells.toList else none := by kernel_rfl
theorem ld133 (h : Heap) (a : Addr) : loadV TT h 133 a = hcell h a := by kernel_rfl
theorem st133 (h : Heap) (a : Addr) (v : Value) : storeV TT h 133 a v = if v.cells.size = 1 then hputs a h 0 v.cells.toList else none := by kernel_rfl
theorem ld134 (h : Heap) (a : Addr) : loadV TT h 134 a = hcell h a := by kernel_rfl
theorem st134 (h : Heap) (a : Addr) (v : Value) : storeV TT h 134 a v = if v.cells.size = 1 then hputs a h 0 v.cells.toList else none := by kernel_rfl
theorem ld135 (h : Heap) (a : Addr) : loadV TT h 135 a = hcell h a := by kernel_rfl
theorem st135 (h : Heap) (a : Addr) (v : Value) : storeV TT h 135 a v = if v.cells.size = 1 then hputs a h 0 v.cells.toList else none := by kernel_rfl
theorem ld136 (h : Heap) (a : Addr) : loadV TT h 136 a = hcell h a := by kernel_rfl
theorem st136 (h : Heap) (a : Addr) (v : Value) : storeV TT h 136 a v = if v.cells.size = 1 then hputs a h 0 v.cells.toList else none := by kernel_rfl
theorem ld137 (h : Heap) (a : Addr) : loadV TT h 137 a = hcell h a := by kernel_rfl
theorem st137 (h : Heap) (a : Addr) (v : Value) : storeV TT h 137 a v = if v.cells.size = 1 then hputs a h 0 v.cells.toList else none := by kernel_rfl
theorem ld138 (h : Heap) (a : Addr) : loadV TT h 138 a = hcell h a := by kernel_rfl
theorem st138 (h : Heap) (a : Addr) (v : Value) : storeV TT h 138 a v = if v.cells.size = 1 then hputs a h 0 v.cells.toList else none := by kernel_rfl
theorem ld139 (h : Heap) (a : Addr) : loadV TT h 139 a = hcell h a := by kernel_rfl
theorem st139 (h : Heap) (a : Addr) (v : Value) : storeV TT h 139 a v = if v.cells.size = 1 then hputs a h 0 v.cells.toList else none := by kernel_rfl
theorem ld140 (h : Heap) (a : Addr) : loadV TT h 140 a = hcell h a := by kernel_rfl
theorem st140 (h : Heap) (a : Addr) (v : Value) : storeV TT h 140 a v = if v.cells.size = 1 then hputs a h 0 v.cells.toList else none := by kernel_rfl
theorem ld141 (h : Heap) (a : Addr) : loadV TT h 141 a = hcell h a := by kernel_rfl
theorem st141 (h : Heap) (a : Addr) (v : Value) : storeV TT h 141 a v = if v.cells.size = 1 then hputs a h 0 v.cells.toList else none := by kernel_rfl
theorem ld142 (h : Heap) (a : Addr) : loadV TT h 142 a = hcell h a := by kernel_rfl
theorem st142 (h : Heap) (a : Addr) (v : Value) : storeV TT h 142 a v = if v.cells.size = 1 then hputs a h 0 v.cells.toList else none := by kernel_rfl
theorem ld143 (h : Heap) (a : Addr) : loadV TT h 143 a = hcell h a := by kernel_rfl
theorem st143 (h : Heap) (a : Addr) (v : Value) : storeV TT h 143 a v = if v.cells.size = 1 then hputs a h 0 v.cells.toList else none := by kernel_rfl
theorem ld144 (h : Heap) (a : Addr) : loadV TT h 144 a = hcell h a := by kernel_rfl
theorem st144 (h : Heap) (a : Addr) (v : Value) : storeV TT h 144 a v = if v.cells.size = 1 then hputs a h 0 v.cells.toList else none := by kernel_rfl
theorem ld145 (h : Heap) (a : Addr) : loadV TT h 145 a = hcell h a := by kernel_rfl
theorem st145 (h : Heap) (a : Addr) (v : Value) : storeV TT h 145 a v = if v.cells.size = 1 then hputs a h 0 v.cells.toList else none := by kernel_rfl
theorem ld146 (h : Heap) (a : Addr) : loadV TT h 146 a = hcell h a := by kernel_rfl
theorem st146 (h : Heap) (a : Addr) (v : Value) : storeV TT h 146 a v = if v.cells.size = 1 then hputs a h 0 v.cells.toList else none := by kernel_rfl
theorem ld147 (h : Heap) (a : Addr) : loadV TT h 147 a = hcell h a := by kernel_rfl
theorem st147 (h : Heap) (a : Addr) (v : Value) : storeV TT h 147 a v = if v.cells.size = 1 then hputs a h 0 v.cells.toList else none := by kernel_rfl
theorem ld148 (h : Heap) (a : Addr) : loadV TT h 148 a = hcell h a := by kernel_rfl
theorem st148 (h : Heap) (a : Addr) (v : Value) : storeV TT h 148 a v = if v.cells.size = 1 then hputs a h 0 v.cells.toList else none := by kernel_rfl
theorem ld149 (h : Heap) (a : Addr) : loadV TT h 149 a = hcell h a := by kernel_rfl
theorem st149 (h : Heap) (a : Addr) (v : Value) : storeV TT h 149 a v = if v.cells.size = 1 then hputs a h 0 v.cells.toList else none := by kernel_rfl
theorem ld150 (h : Heap) (a : Addr) : loadV TT h 150 a = hcell h a := by kernel_rfl
theorem st150 (h : Heap) (a : Addr) (v : Value) : storeV TT h 150 a v = if v.cells.size = 1 then hputs a h 0 v.cells.toList else none := by kernel_rfl
theorem ld151 (h : Heap) (a : Addr) : loadV TT h 151 a = hcell h a := by kernel_rfl
theorem st151 (h : Heap) (a : Addr) (v : Value) : storeV TT h 151 a v = if v.cells.size = 1 then hputs a h 0 v.cells.toList else none := by kernel_rfl
theorem ld152 (h : Heap) (a : Addr) : loadV TT h 152 a = hcell h a := by kernel_rfl
theorem st152 (h : Heap) (a : Addr) (v : Value) : storeV TT h 152 a v = if v.cells.size = 1 then hputs a h 0 v.cells.toList else none := by kernel_rfl
theorem ld153 (h : Heap) (a : Addr) : loadV TT h 153 a = hcell h a := by kernel_rfl
theorem st153 (h : Heap) (a : Addr) (v : Value) : storeV TT h 153 a v = if v.cells.size = 1 then hputs a h 0 v.cells.toList else none := by kernel_rfl
theorem ld154 (h : Heap) (a : Addr) : loadV TT h 154 a = hcell h a := by kernel_rfl
theorem st154 (h : Heap) (a : Addr) (v : Value) : storeV TT h 154 a v = if v.cells.size = 1 then hputs a h 0 v.cells.toList else none := by kernel_rfl
theorem ld155 (h : Heap) (a : Addr) : loadV TT h 155 a = hcell h a := by kernel_rfl
theorem st155 (h : Heap) (a : Addr) (v : Value) : storeV TT h 155 a v = if v.cells.size = 1 then hputs a h 0 v.cells.toList else none := by kernel_rfl
theorem ld156 (h : Heap) (a : Addr) : loadV TT h 156 a = hcell h a := by kernel_rfl
theorem st156 (h : Heap) (a : Addr) (v : Value) : storeV TT h 156 a v = if v.cells.size = 1 then hputs a h 0 v.cells.toList else none := by kernel_rfl
theorem ld157 (h : Heap) (a : Addr) : loadV TT h 157 a = hcell h a := by kernel_rfl
theorem st157 (h : Heap) (a : Addr) (v : Value) : storeV TT h 157 a v = if v.cells.size = 1 then hputs a h 0 v.cells.toList else none := by kernel_rfl
theorem ld158 (h : Heap) (a : Addr) : loadV TT h 158 a = hcell h a := by kernel_rfl
theorem st158 (h : Heap) (a : Addr) (v : Value) : storeV TT h 158 a v = if v.cells.size = 1 then hputs a h 0 v.cells.toList else none := by kernel_rfl
theorem ld159 (h : Heap) (a : Addr) : loadV TT h 159 a = hcell h a := by kernel_rfl
theorem st159 (h : Heap) (a : Addr) (v : Value) : storeV TT h 159 a v = if v.cells.size = 1 then hputs a h 0 v.cells.toList else none := by kernel_rfl
theorem ld160 (h : Heap) (a : Addr) : loadV TT h 160 a = hcell h a := by kernel_rfl
theorem st160 (h : Heap) (a : Addr) (v : Value) : storeV TT h 160 a v = if v.cells.size = 1 then hputs a h 0 v.cells.toList else none := by kernel_rfl
theorem ld161 (h : Heap) (a : Addr) : loadV TT h 161 a = hcell h a := by kernel_rfl
theorem st161 (h : Heap) (a : Addr) (v : Value) : storeV TT h 161 a v = if v.cells.size = 1 then hputs a h 0 v.cells.toList else none := by kernel_rfl
theorem ld162 (h : Heap) (a : Addr) : loadV TT h 162 a = hcell h a := by kernel_rfl
theorem st162 (h : Heap) (a : Addr) (v : Value) : storeV TT h 162 a v = if v.cells.size = 1 then hputs a h 0 v.cells.toList else none := by kernel_rfl
theorem ld163 (h : Heap) (a : Addr) : loadV TT h 163 a = hcell h a := by kernel_rfl
theorem st163 (h : Heap) (a : Addr) (v : Value) : storeV TT h 163 a v = if v.cells.size = 1 then hputs a h 0 v.cells.toList else none := by kernel_rfl
theorem ld164 (h : Heap) (a : Addr) : loadV TT h 164 a = hcell h a := by kernel_rfl
theorem st164 (h : Heap) (a : Addr) (v : Value) : storeV TT h 164 a v = if v.cells.size = 1 then hputs a h 0 v.cells.toList else none := by kernel_rfl
theorem fa165_0 (a : Addr) : fieldAddrV TT 165 (.pointer (some a)) 0 = some (.pointer (some (a.add 0))) := by kernel_rfl
theorem fa165_1 (a : Addr) : fieldAddrV TT 165 (.pointer (some a)) 1 = some (.pointer (some (a.add 1))) := by kernel_rfl
theorem fa165_2 (a : Addr) : fieldAddrV TT 165 (.pointer (some a)) 2 = some (.pointer (some (a.add 2))) := by kernel_rfl
theorem fa165_3 (a : Addr) : fieldAddrV TT 165 (.pointer (some a)) 3 = some (.pointer (some (a.add 3))) := by kernel_rfl
theorem ld165 (h : Heap) (a : Addr) : loadV TT h 165 a = (hcells h a 0 4).map fun cs => .agg cs.toArray := by kernel_rfl
theorem st165 (h : Heap) (a : Addr) (v : Value) : storeV TT h 165 a v = if v.cells.size = 4 then hputs a h 0 v.cells.toList else none := by kernel_rfl
theorem fa166_0 (a : Addr) : fieldAddrV TT 166 (.pointer (some a)) 0 = some (.pointer (some (a.add 0))) := by kernel_rfl
theorem fa166_1 (a : Addr) : fieldAddrV TT 166 (.pointer (some a)) 1 = some (.pointer (some (a.add 1))) := by kernel_rfl
theorem fa166_2 (a : Addr) : fieldAddrV TT 166 (.pointer (some a)) 2 = some (.pointer (some (a.add 2))) := by kernel_rfl
theorem fa166_3 (a : Addr) : fieldAddrV TT 166 (.pointer (some a)) 3 = some (.pointer (some (a.add 3))) := by kernel_rfl
theorem ld166 (h : Heap) (a : Addr) : loadV TT h 166 a = (hcells h a 0 4).map fun cs => .agg cs.toArray := by kernel_rfl
theorem st166 (h : Heap) (a : Addr) (v : Value) : storeV TT h 166 a v = if v.cells.size = 4 then hputs a h 0 v.cells.toList else none := by kernel_rfl
theorem ld167 (h : Heap) (a : Addr) : loadV TT h 167 a = (hcells h a 0 0).map fun cs => .agg cs.toArray := by kernel_rfl
theorem st167 (h : Heap) (a : Addr) (v : Value) : storeV TT h 167 a v = if v.cells.size = 0 then hputs a h 0 v.cells.toList else none := by kernel_rfl
theorem ld168 (h : Heap) (a : Addr) : loadV TT h 168 a = (hcells h a 0 0).map fun cs => .agg cs.toArray := by kernel_rfl
theorem st168 (h : Heap) (a : Addr) (v : Value) : storeV TT h 168 a v = if v.cells.size = 0 then hputs a h 0 v.cells.toList else none := by kernel_rfl
noncomputable def d168 : TypeDesc := (Try.prog.underlying 168).getD .bool
theorem T168 : TT 168 = some ⟨d168, 0, 0, .agg #[]⟩ := by kernel_rfl
theorem ld169 (h : Heap) (a : Addr) : loadV TT h 169 a = (hcells h a 0 0).map fun cs => .agg cs.toArray := by kernel_rfl
theorem st169 (h : Heap) (a : Addr) (v : Value) : storeV TT h 169 a v = if v.cells.size = 0 then hputs a h 0 v.cells.toList else none := by kernel_rfl
noncomputable def d169 : TypeDesc := (Try.prog.underlying 169).getD .bool
theorem T169 : TT 169 = some ⟨d169, 0, 0, .agg #[]⟩ := by kernel_rfl
theorem ld170 (h : Heap) (a : Addr) : loadV TT h 170 a = hcell h a := by kernel_rfl
theorem st170 (h : Heap) (a : Addr) (v : Value) : storeV TT h 170 a v = if v.cells.size = 1 then hputs a h 0 v.cells.toList else none := by kernel_rfl
theorem T171 : TT 171 = some ⟨.int .u32, 1, 4, (.int .u32 0)⟩ := by kernel_rfl
theorem ld171 (h : Heap) (a : Addr) : loadV TT h 171 a = hcell h a := by kernel_rfl
theorem st171 (h : Heap) (a : Addr) (v : Value) : storeV TT h 171 a v = if v.cells.size = 1 then hputs a h 0 v.cells.toList else none := by kernel_rfl
theorem T172 : TT 172 = some ⟨.int .u8, 1, 1, (.int .u8 0)⟩ := by kernel_rfl
theorem ld172 (h : Heap) (a : Addr) : loadV TT h 172 a = hcell h a := by kernel_rfl
theorem st172 (h : Heap) (a : Addr) (v : Value) : storeV TT h 172 a v = if v.cells.size = 1 then hputs a h 0 v.cells.toList else none := by kernel_rfl
theorem T173 : TT 173 = some ⟨.int .u8, 1, 1, (.int .u8 0)⟩ := by kernel_rfl
theorem ld173 (h : Heap) (a : Addr) : loadV TT h 173 a = hcell h a := by kernel_rfl
theorem st173 (h : Heap) (a : Addr) (v : Value) : storeV TT h 173 a v = if v.cells.size = 1 then hputs a h 0 v.cells.toList else none := by kernel_rfl
theorem ld174 (h : Heap) (a : Addr) : loadV TT h 174 a = hcell h a := by kernel_rfl
theorem st174 (h : Heap) (a : Addr) (v : Value) : storeV TT h 174 a v = if v.cells.size = 1 then hputs a h 0 v.cells.toList else none := by kernel_rfl
theorem ld175 (h : Heap) (a : Addr) : loadV TT h 175 a = hcell h a := by kernel_rfl
theorem st175 (h : Heap) (a : Addr) (v : Value) : storeV TT h 175 a v = if v.cells.size = 1 then hputs a h 0 v.cells.toList else none := by kernel_rfl
theorem T176 : TT 176 = some ⟨.int .i32, 1, 4, (.int .i32 0)⟩ := by kernel_rfl
theorem ld176 (h : Heap) (a : Addr) : loadV TT h 176 a = hcell h a := by kernel_rfl
theorem st176 (h : Heap) (a : Addr) (v : Value) : storeV TT h 176 a v = if v.cells.size = 1 then hputs a h 0 v.cells.toList else none := by kernel_rfl
theorem T177 : TT 177 = some ⟨.int .i32, 1, 4, (.int .i32 0)⟩ := by kernel_rfl
theorem ld177 (h : Heap) (a : Addr) : loadV TT h 177 a = hcell h a := by kernel_rfl
theorem st177 (h : Heap) (a : Addr) (v : Value) : storeV TT h 177 a v = if v.cells.size = 1 then hputs a h 0 v.cells.toList else none := by kernel_rfl
theorem fa178_0 (a : Addr) : fieldAddrV TT 178 (.pointer (some a)) 0 = some (.pointer (some (a.add 0))) := by kernel_rfl
theorem fa178_1 (a : Addr) : fieldAddrV TT 178 (.pointer (some a)) 1 = some (.pointer (some (a.add 1))) := by kernel_rfl
theorem fa178_2 (a : Addr) : fieldAddrV TT 178 (.pointer (some a)) 2 = some (.pointer (some (a.add 2))) := by kernel_rfl
theorem fa178_3 (a : Addr) : fieldAddrV TT 178 (.pointer (some a)) 3 = some (.pointer (some (a.add 3))) := by kernel_rfl
theorem fa178_4 (a : Addr) : fieldAddrV TT 178 (.pointer (some a)) 4 = some (.pointer (some (a.add 4))) := by kernel_rfl
theorem fa178_5 (a : Addr) : fieldAddrV TT 178 (.pointer (some a)) 5 = some (.pointer (some (a.add 5))) := by kernel_rfl
theorem fa178_6 (a : Addr) : fieldAddrV TT 178 (.pointer (some a)) 6 = some (.pointer (some (a.add 6))) := by kernel_rfl
theorem fa178_7 (a : Addr) : fieldAddrV TT 178 (.pointer (some a)) 7 = some (.pointer (some (a.add 7))) := by kernel_rfl
theorem fa178_8 (a : Addr) : fieldAddrV TT 178 (.pointer (some a)) 8 = some (.pointer (some (a.add 8))) := by kernel_rfl
theorem fa178_9 (a : Addr) : fieldAddrV TT 178 (.pointer (some a)) 9 = some (.pointer (some (a.add 9))) := by kernel_rfl
theorem fa178_10 (a : Addr) : fieldAddrV TT 178 (.pointer (some a)) 10 = some (.pointer (some (a.add 10))) := by kernel_rfl
theorem ld178 (h : Heap) (a : Addr) : loadV TT h 178 a = (hcells h a 0 11).map fun cs => .agg cs.toArray := by kernel_rfl
theorem st178 (h : Heap) (a : Addr) (v : Value) : storeV TT h 178 a v = if v.cells.size = 11 then hputs a h 0 v.cells.toList else none := by kernel_rfl
theorem fa179_0 (a : Addr) : fieldAddrV TT 179 (.pointer (some a)) 0 = some (.pointer (some (a.add 0))) := by kernel_rfl
theorem fa179_1 (a : Addr) : fieldAddrV TT 179 (.pointer (some a)) 1 = some (.pointer (some (a.add 1))) := by kernel_rfl
theorem fa179_2 (a : Addr) : fieldAddrV TT 179 (.pointer (some a)) 2 = some (.pointer (some (a.add 2))) := by kernel_rfl
theorem fa179_3 (a : Addr) : fieldAddrV TT 179 (.pointer (some a)) 3 = some (.pointer (some (a.add 3))) := by kernel_rfl
theorem fa179_4 (a : Addr) : fieldAddrV TT 179 (.pointer (some a)) 4 = some (.pointer (some (a.add 4))) := by kernel_rfl
theorem fa179_5 (a : Addr) : fieldAddrV TT 179 (.pointer (some a)) 5 = some (.pointer (some (a.add 5))) := by kernel_rfl
theorem fa179_6 (a : Addr) : fieldAddrV TT 179 (.pointer (some a)) 6 = some (.pointer (some (a.add 6))) := by kernel_rfl
theorem fa179_7 (a : Addr) : fieldAddrV TT 179 (.pointer (some a)) 7 = some (.pointer (some (a.add 7))) := by kernel_rfl
theorem fa179_8 (a : Addr) : fieldAddrV TT 179 (.pointer (some a)) 8 = some (.pointer (some (a.add 8))) := by kernel_rfl
theorem fa179_9 (a : Addr) : fieldAddrV TT 179 (.pointer (some a)) 9 = some (.pointer (some (a.add 9))) := by kernel_rfl
theorem fa179_10 (a : Addr) : fieldAddrV TT 179 (.pointer (some a)) 10 = some (.pointer (some (a.add 10))) := by kernel_rfl
theorem ld179 (h : Heap) (a : Addr) : loadV TT h 179 a = (hcells h a 0 11).map fun cs => .agg cs.toArray := by kernel_rfl
theorem st179 (h : Heap) (a : Addr) (v : Value) : storeV TT h 179 a v = if v.cells.size = 11 then hputs a h 0 v.cells.toList else none := by kernel_rfl
theorem sl37 : SlT TT 37 5 := ⟨⟨_, _, T37, rfl, T5, rfl⟩⟩
theorem sz37 : SlZ TT 37 5 1 (.int .u8 0) := ⟨by kernel_rfl, rfl, by decide, by kernel_rfl⟩
theorem sl55 : SlT TT 55 2 := ⟨⟨_, _, T55, rfl, T2, rfl⟩⟩
theorem sz55 : SlZ TT 55 2 8 (.int .i64 0) := ⟨by kernel_rfl, rfl, by decide, by kernel_rfl⟩
theorem sl56 : SlT TT 56 59 := ⟨⟨_, _, T56, rfl, T59, rfl⟩⟩
theorem sz56 : SlZ TT 56 59 24 (.slice none 0 0) := ⟨by kernel_rfl, rfl, by decide, by kernel_rfl⟩
theorem sl59 : SlT TT 59 55 := ⟨⟨_, _, T59, rfl, T55, rfl⟩⟩
theorem sz59 : SlZ TT 59 55 24 (.slice none 0 0) := ⟨by kernel_rfl, rfl, by decide, by kernel_rfl⟩
theorem sl89 : SlT TT 89 9 := ⟨⟨_, _, T89, rfl, T9, rfl⟩⟩
theorem sz89 : SlZ TT 89 9 16 (.string ⟨#[]⟩) := ⟨by kernel_rfl, rfl, by decide, by kernel_rfl⟩
end Go.Proofs.Ytacajcjibhifmaa
