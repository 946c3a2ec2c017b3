/-
  The types of this seat's program: what the ground asks of each. Made by a program of ours (wip/gentypes.py).
  Conditions: none.
-/
import Derived.Test.YtkdnnfkdgmblgaaG6
import Derived.Test.YtkdnnfkdgmblgaaProg
set_option linter.unusedVariables false
set_option linter.unusedSimpArgs false
set_option maxRecDepth 100000
namespace Go.Proofs.Ytkdnnfkdgmblgaa
open Go
noncomputable def TT : Tab := tabOf Try.prog
theorem TTok : TOk Try.prog TT := tabOf_ok _
theorem mixed : Try.prog.follows .mixedOrders = true := by kernel_rfl
theorem ld1 (h : Heap) (a : Addr) : loadV TT h 1 a = hcell h a := by kernel_rfl
theorem st1 (h : Heap) (a : Addr) (v : Value) : storeV TT h 1 a v = if v.cells.size = 1 then hputs a h 0 v.cells.toList else none := by kernel_rfl
theorem T2 : TT 2 = some ⟨.int .i64, 1, 8, (.int .i64 0)⟩ := by kernel_rfl
theorem ld2 (h : Heap) (a : Addr) : loadV TT h 2 a = hcell h a := by kernel_rfl
theorem st2 (h : Heap) (a : Addr) (v : Value) : storeV TT h 2 a v = if v.cells.size = 1 then hputs a h 0 v.cells.toList else none := by kernel_rfl
theorem T3 : TT 3 = some ⟨.int .i64, 1, 8, (.int .i64 0)⟩ := by kernel_rfl
theorem ld3 (h : Heap) (a : Addr) : loadV TT h 3 a = hcell h a := by kernel_rfl
theorem st3 (h : Heap) (a : Addr) (v : Value) : storeV TT h 3 a v = if v.cells.size = 1 then hputs a h 0 v.cells.toList else none := by kernel_rfl
theorem T4 : TT 4 = some ⟨.bool, 1, 1, (.bool false)⟩ := by kernel_rfl
theorem ld4 (h : Heap) (a : Addr) : loadV TT h 4 a = hcell h a := by kernel_rfl
theorem st4 (h : Heap) (a : Addr) (v : Value) : storeV TT h 4 a v = if v.cells.size = 1 then hputs a h 0 v.cells.toList else none := by kernel_rfl
theorem T5 : TT 5 = some ⟨.int .u8, 1, 1, (.int .u8 0)⟩ := by kernel_rfl
theorem ld5 (h : Heap) (a : Addr) : loadV TT h 5 a = hcell h a := by kernel_rfl
theorem st5 (h : Heap) (a : Addr) (v : Value) : storeV TT h 5 a v = if v.cells.size = 1 then hputs a h 0 v.cells.toList else none := by kernel_rfl
theorem T6 : TT 6 = some ⟨.int .u8, 1, 1, (.int .u8 0)⟩ := by kernel_rfl
theorem ld6 (h : Heap) (a : Addr) : loadV TT h 6 a = hcell h a := by kernel_rfl
theorem st6 (h : Heap) (a : Addr) (v : Value) : storeV TT h 6 a v = if v.cells.size = 1 then hputs a h 0 v.cells.toList else none := by kernel_rfl
theorem fa7_0 (a : Addr) : fieldAddrV TT 7 (.pointer (some a)) 0 = some (.pointer (some (a.add 0))) := by kernel_rfl
theorem fa7_1 (a : Addr) : fieldAddrV TT 7 (.pointer (some a)) 1 = some (.pointer (some (a.add 1))) := by kernel_rfl
theorem fa7_2 (a : Addr) : fieldAddrV TT 7 (.pointer (some a)) 2 = some (.pointer (some (a.add 2))) := by kernel_rfl
theorem fa7_3 (a : Addr) : fieldAddrV TT 7 (.pointer (some a)) 3 = some (.pointer (some (a.add 3))) := by kernel_rfl
theorem ld7 (h : Heap) (a : Addr) : loadV TT h 7 a = (hcells h a 0 4).map fun cs => .agg cs.toArray := by kernel_rfl
theorem st7 (h : Heap) (a : Addr) (v : Value) : storeV TT h 7 a v = if v.cells.size = 4 then hputs a h 0 v.cells.toList else none := by kernel_rfl
noncomputable def d7 : TypeDesc := (Try.prog.underlying 7).getD .bool
theorem T7 : TT 7 = some ⟨d7, 4, 24, .agg #[(.int .i64 0), (.int .i64 0), (.bool false), (.int .u8 0)]⟩ := by kernel_rfl
theorem fd7_0 (v0 v1 v2 v3 : Value) : fieldV TT 7 (.agg #[v0, v1, v2, v3]) 0 = some v0 := by kernel_rfl
theorem fd7_1 (v0 v1 v2 v3 : Value) : fieldV TT 7 (.agg #[v0, v1, v2, v3]) 1 = some v1 := by kernel_rfl
theorem fd7_2 (v0 v1 v2 v3 : Value) : fieldV TT 7 (.agg #[v0, v1, v2, v3]) 2 = some v2 := by kernel_rfl
theorem fd7_3 (v0 v1 v2 v3 : Value) : fieldV TT 7 (.agg #[v0, v1, v2, v3]) 3 = some v3 := by kernel_rfl
theorem fa8_0 (a : Addr) : fieldAddrV TT 8 (.pointer (some a)) 0 = some (.pointer (some (a.add 0))) := by kernel_rfl
theorem fa8_1 (a : Addr) : fieldAddrV TT 8 (.pointer (some a)) 1 = some (.pointer (some (a.add 1))) := by kernel_rfl
theorem fa8_2 (a : Addr) : fieldAddrV TT 8 (.pointer (some a)) 2 = some (.pointer (some (a.add 2))) := by kernel_rfl
theorem fa8_3 (a : Addr) : fieldAddrV TT 8 (.pointer (some a)) 3 = some (.pointer (some (a.add 3))) := by kernel_rfl
theorem ld8 (h : Heap) (a : Addr) : loadV TT h 8 a = (hcells h a 0 4).map fun cs => .agg cs.toArray := by kernel_rfl
theorem st8 (h : Heap) (a : Addr) (v : Value) : storeV TT h 8 a v = if v.cells.size = 4 then hputs a h 0 v.cells.toList else none := by kernel_rfl
noncomputable def d8 : TypeDesc := (Try.prog.underlying 8).getD .bool
theorem T8 : TT 8 = some ⟨d8, 4, 24, .agg #[(.int .i64 0), (.int .i64 0), (.bool false), (.int .u8 0)]⟩ := by kernel_rfl
theorem fd8_0 (v0 v1 v2 v3 : Value) : fieldV TT 8 (.agg #[v0, v1, v2, v3]) 0 = some v0 := by kernel_rfl
theorem fd8_1 (v0 v1 v2 v3 : Value) : fieldV TT 8 (.agg #[v0, v1, v2, v3]) 1 = some v1 := by kernel_rfl
theorem fd8_2 (v0 v1 v2 v3 : Value) : fieldV TT 8 (.agg #[v0, v1, v2, v3]) 2 = some v2 := by kernel_rfl
theorem fd8_3 (v0 v1 v2 v3 : Value) : fieldV TT 8 (.agg #[v0, v1, v2, v3]) 3 = some v3 := by kernel_rfl
theorem T9 : TT 9 = some ⟨.string, 1, 16, (.string ⟨#[]⟩)⟩ := by kernel_rfl
theorem ld9 (h : Heap) (a : Addr) : loadV TT h 9 a = hcell h a := by kernel_rfl
theorem st9 (h : Heap) (a : Addr) (v : Value) : storeV TT h 9 a v = if v.cells.size = 1 then hputs a h 0 v.cells.toList else none := by kernel_rfl
theorem T10 : TT 10 = some ⟨.string, 1, 16, (.string ⟨#[]⟩)⟩ := by kernel_rfl
theorem ld10 (h : Heap) (a : Addr) : loadV TT h 10 a = hcell h a := by kernel_rfl
theorem st10 (h : Heap) (a : Addr) (v : Value) : storeV TT h 10 a v = if v.cells.size = 1 then hputs a h 0 v.cells.toList else none := by kernel_rfl
theorem T11 : TT 11 = some ⟨.string, 1, 16, (.string ⟨#[]⟩)⟩ := by kernel_rfl
theorem ld11 (h : Heap) (a : Addr) : loadV TT h 11 a = hcell h a := by kernel_rfl
theorem st11 (h : Heap) (a : Addr) (v : Value) : storeV TT h 11 a v = if v.cells.size = 1 then hputs a h 0 v.cells.toList else none := by kernel_rfl
theorem T12 : TT 12 = some ⟨.int .u64, 1, 8, (.int .u64 0)⟩ := by kernel_rfl
theorem ld12 (h : Heap) (a : Addr) : loadV TT h 12 a = hcell h a := by kernel_rfl
theorem st12 (h : Heap) (a : Addr) (v : Value) : storeV TT h 12 a v = if v.cells.size = 1 then hputs a h 0 v.cells.toList else none := by kernel_rfl
theorem fa13_0 (a : Addr) : fieldAddrV TT 13 (.pointer (some a)) 0 = some (.pointer (some (a.add 0))) := by kernel_rfl
theorem fa13_1 (a : Addr) : fieldAddrV TT 13 (.pointer (some a)) 1 = some (.pointer (some (a.add 1))) := by kernel_rfl
theorem ld13 (h : Heap) (a : Addr) : loadV TT h 13 a = (hcells h a 0 2).map fun cs => .agg cs.toArray := by kernel_rfl
theorem st13 (h : Heap) (a : Addr) (v : Value) : storeV TT h 13 a v = if v.cells.size = 2 then hputs a h 0 v.cells.toList else none := by kernel_rfl
noncomputable def d13 : TypeDesc := (Try.prog.underlying 13).getD .bool
theorem T13 : TT 13 = some ⟨d13, 2, 24, .agg #[(.string ⟨#[]⟩), (.int .u64 0)]⟩ := by kernel_rfl
theorem fd13_0 (v0 v1 : Value) : fieldV TT 13 (.agg #[v0, v1]) 0 = some v0 := by kernel_rfl
theorem fd13_1 (v0 v1 : Value) : fieldV TT 13 (.agg #[v0, v1]) 1 = some v1 := by kernel_rfl
theorem fa14_0 (a : Addr) : fieldAddrV TT 14 (.pointer (some a)) 0 = some (.pointer (some (a.add 0))) := by kernel_rfl
theorem fa14_1 (a : Addr) : fieldAddrV TT 14 (.pointer (some a)) 1 = some (.pointer (some (a.add 1))) := by kernel_rfl
theorem ld14 (h : Heap) (a : Addr) : loadV TT h 14 a = (hcells h a 0 2).map fun cs => .agg cs.toArray := by kernel_rfl
theorem st14 (h : Heap) (a : Addr) (v : Value) : storeV TT h 14 a v = if v.cells.size = 2 then hputs a h 0 v.cells.toList else none := by kernel_rfl
noncomputable def d14 : TypeDesc := (Try.prog.underlying 14).getD .bool
theorem T14 : TT 14 = some ⟨d14, 2, 24, .agg #[(.string ⟨#[]⟩), (.int .u64 0)]⟩ := by kernel_rfl
theorem fd14_0 (v0 v1 : Value) : fieldV TT 14 (.agg #[v0, v1]) 0 = some v0 := by kernel_rfl
theorem fd14_1 (v0 v1 : Value) : fieldV TT 14 (.agg #[v0, v1]) 1 = some v1 := by kernel_rfl
theorem ld15 (h : Heap) (a : Addr) : loadV TT h 15 a = hcell h a := by kernel_rfl
theorem st15 (h : Heap) (a : Addr) (v : Value) : storeV TT h 15 a v = if v.cells.size = 1 then hputs a h 0 v.cells.toList else none := by kernel_rfl
theorem ld16 (h : Heap) (a : Addr) : loadV TT h 16 a = hcell h a := by kernel_rfl
theorem st16 (h : Heap) (a : Addr) (v : Value) : storeV TT h 16 a v = if v.cells.size = 1 then hputs a h 0 v.cells.toList else none := by kernel_rfl
theorem ld17 (h : Heap) (a : Addr) : loadV TT h 17 a = hcell h a := by kernel_rfl
theorem st17 (h : Heap) (a : Addr) (v : Value) : storeV TT h 17 a v = if v.cells.size = 1 then hputs a h 0 v.cells.toList else none := by kernel_rfl
theorem fa18_0 (a : Addr) : fieldAddrV TT 18 (.pointer (some a)) 0 = some (.pointer (some (a.add 0))) := by kernel_rfl
theorem ld18 (h : Heap) (a : Addr) : loadV TT h 18 a = (hcells h a 0 1).map fun cs => .agg cs.toArray := by kernel_rfl
theorem st18 (h : Heap) (a : Addr) (v : Value) : storeV TT h 18 a v = if v.cells.size = 1 then hputs a h 0 v.cells.toList else none := by kernel_rfl
noncomputable def d18 : TypeDesc := (Try.prog.underlying 18).getD .bool
theorem T18 : TT 18 = some ⟨d18, 1, 8, .agg #[(.pointer none)]⟩ := by kernel_rfl
theorem fd18_0 (v0 : Value) : fieldV TT 18 (.agg #[v0]) 0 = some v0 := by kernel_rfl
theorem fa19_0 (a : Addr) : fieldAddrV TT 19 (.pointer (some a)) 0 = some (.pointer (some (a.add 0))) := by kernel_rfl
theorem ld19 (h : Heap) (a : Addr) : loadV TT h 19 a = (hcells h a 0 1).map fun cs => .agg cs.toArray := by kernel_rfl
theorem st19 (h : Heap) (a : Addr) (v : Value) : storeV TT h 19 a v = if v.cells.size = 1 then hputs a h 0 v.cells.toList else none := by kernel_rfl
noncomputable def d19 : TypeDesc := (Try.prog.underlying 19).getD .bool
theorem T19 : TT 19 = some ⟨d19, 1, 8, .agg #[(.pointer none)]⟩ := by kernel_rfl
theorem fd19_0 (v0 : Value) : fieldV TT 19 (.agg #[v0]) 0 = some v0 := by kernel_rfl
theorem T21 : TT 21 = some ⟨.int .i32, 1, 4, (.int .i32 0)⟩ := by kernel_rfl
theorem ld21 (h : Heap) (a : Addr) : loadV TT h 21 a = hcell h a := by kernel_rfl
theorem st21 (h : Heap) (a : Addr) (v : Value) : storeV TT h 21 a v = if v.cells.size = 1 then hputs a h 0 v.cells.toList else none := by kernel_rfl
theorem T22 : TT 22 = some ⟨.slice 2, 1, 24, (.slice none 0 0)⟩ := by kernel_rfl
theorem ld22 (h : Heap) (a : Addr) : loadV TT h 22 a = hcell h a := by kernel_rfl
theorem st22 (h : Heap) (a : Addr) (v : Value) : storeV TT h 22 a v = if v.cells.size = 1 then hputs a h 0 v.cells.toList else none := by kernel_rfl
theorem T23 : TT 23 = some ⟨.slice 27, 1, 24, (.slice none 0 0)⟩ := by kernel_rfl
theorem ld23 (h : Heap) (a : Addr) : loadV TT h 23 a = hcell h a := by kernel_rfl
theorem st23 (h : Heap) (a : Addr) (v : Value) : storeV TT h 23 a v = if v.cells.size = 1 then hputs a h 0 v.cells.toList else none := by kernel_rfl
theorem fa24_0 (a : Addr) : fieldAddrV TT 24 (.pointer (some a)) 0 = some (.pointer (some (a.add 0))) := by kernel_rfl
theorem fa24_1 (a : Addr) : fieldAddrV TT 24 (.pointer (some a)) 1 = some (.pointer (some (a.add 1))) := by kernel_rfl
theorem fa24_2 (a : Addr) : fieldAddrV TT 24 (.pointer (some a)) 2 = some (.pointer (some (a.add 2))) := by kernel_rfl
theorem ld24 (h : Heap) (a : Addr) : loadV TT h 24 a = (hcells h a 0 3).map fun cs => .agg cs.toArray := by kernel_rfl
theorem st24 (h : Heap) (a : Addr) (v : Value) : storeV TT h 24 a v = if v.cells.size = 3 then hputs a h 0 v.cells.toList else none := by kernel_rfl
noncomputable def d24 : TypeDesc := (Try.prog.underlying 24).getD .bool
theorem T24 : TT 24 = some ⟨d24, 3, 56, .agg #[(.int .i64 0), (.slice none 0 0), (.slice none 0 0)]⟩ := by kernel_rfl
theorem fd24_0 (v0 v1 v2 : Value) : fieldV TT 24 (.agg #[v0, v1, v2]) 0 = some v0 := by kernel_rfl
theorem fd24_1 (v0 v1 v2 : Value) : fieldV TT 24 (.agg #[v0, v1, v2]) 1 = some v1 := by kernel_rfl
theorem fd24_2 (v0 v1 v2 : Value) : fieldV TT 24 (.agg #[v0, v1, v2]) 2 = some v2 := by kernel_rfl
theorem fa25_0 (a : Addr) : fieldAddrV TT 25 (.pointer (some a)) 0 = some (.pointer (some (a.add 0))) := by kernel_rfl
theorem fa25_1 (a : Addr) : fieldAddrV TT 25 (.pointer (some a)) 1 = some (.pointer (some (a.add 1))) := by kernel_rfl
theorem fa25_2 (a : Addr) : fieldAddrV TT 25 (.pointer (some a)) 2 = some (.pointer (some (a.add 2))) := by kernel_rfl
theorem ld25 (h : Heap) (a : Addr) : loadV TT h 25 a = (hcells h a 0 3).map fun cs => .agg cs.toArray := by kernel_rfl
theorem st25 (h : Heap) (a : Addr) (v : Value) : storeV TT h 25 a v = if v.cells.size = 3 then hputs a h 0 v.cells.toList else none := by kernel_rfl
noncomputable def d25 : TypeDesc := (Try.prog.underlying 25).getD .bool
theorem T25 : TT 25 = some ⟨d25, 3, 56, .agg #[(.int .i64 0), (.slice none 0 0), (.slice none 0 0)]⟩ := by kernel_rfl
theorem fd25_0 (v0 v1 v2 : Value) : fieldV TT 25 (.agg #[v0, v1, v2]) 0 = some v0 := by kernel_rfl
theorem fd25_1 (v0 v1 v2 : Value) : fieldV TT 25 (.agg #[v0, v1, v2]) 1 = some v1 := by kernel_rfl
theorem fd25_2 (v0 v1 v2 : Value) : fieldV TT 25 (.agg #[v0, v1, v2]) 2 = some v2 := by kernel_rfl
theorem ld26 (h : Heap) (a : Addr) : loadV TT h 26 a = hcell h a := by kernel_rfl
theorem st26 (h : Heap) (a : Addr) (v : Value) : storeV TT h 26 a v = if v.cells.size = 1 then hputs a h 0 v.cells.toList else none := by kernel_rfl
theorem T27 : TT 27 = some ⟨.slice 22, 1, 24, (.slice none 0 0)⟩ := by kernel_rfl
theorem ld27 (h : Heap) (a : Addr) : loadV TT h 27 a = hcell h a := by kernel_rfl
theorem st27 (h : Heap) (a : Addr) (v : Value) : storeV TT h 27 a v = if v.cells.size = 1 then hputs a h 0 v.cells.toList else none := by kernel_rfl
theorem T28 : TT 28 = some ⟨.slice 23, 1, 24, (.slice none 0 0)⟩ := by kernel_rfl
theorem ld28 (h : Heap) (a : Addr) : loadV TT h 28 a = hcell h a := by kernel_rfl
theorem st28 (h : Heap) (a : Addr) (v : Value) : storeV TT h 28 a v = if v.cells.size = 1 then hputs a h 0 v.cells.toList else none := by kernel_rfl
theorem fa29_0 (a : Addr) : fieldAddrV TT 29 (.pointer (some a)) 0 = some (.pointer (some (a.add 0))) := by kernel_rfl
theorem fa29_1 (a : Addr) : fieldAddrV TT 29 (.pointer (some a)) 1 = some (.pointer (some (a.add 1))) := by kernel_rfl
theorem fa29_2 (a : Addr) : fieldAddrV TT 29 (.pointer (some a)) 2 = some (.pointer (some (a.add 2))) := by kernel_rfl
theorem fa29_3 (a : Addr) : fieldAddrV TT 29 (.pointer (some a)) 3 = some (.pointer (some (a.add 3))) := by kernel_rfl
theorem ld29 (h : Heap) (a : Addr) : loadV TT h 29 a = (hcells h a 0 4).map fun cs => .agg cs.toArray := by kernel_rfl
theorem st29 (h : Heap) (a : Addr) (v : Value) : storeV TT h 29 a v = if v.cells.size = 4 then hputs a h 0 v.cells.toList else none := by kernel_rfl
noncomputable def d29 : TypeDesc := (Try.prog.underlying 29).getD .bool
theorem T29 : TT 29 = some ⟨d29, 4, 80, .agg #[(.int .i64 0), (.slice none 0 0), (.slice none 0 0), (.slice none 0 0)]⟩ := by kernel_rfl
theorem fd29_0 (v0 v1 v2 v3 : Value) : fieldV TT 29 (.agg #[v0, v1, v2, v3]) 0 = some v0 := by kernel_rfl
theorem fd29_1 (v0 v1 v2 v3 : Value) : fieldV TT 29 (.agg #[v0, v1, v2, v3]) 1 = some v1 := by kernel_rfl
theorem fd29_2 (v0 v1 v2 v3 : Value) : fieldV TT 29 (.agg #[v0, v1, v2, v3]) 2 = some v2 := by kernel_rfl
theorem fd29_3 (v0 v1 v2 v3 : Value) : fieldV TT 29 (.agg #[v0, v1, v2, v3]) 3 = some v3 := by kernel_rfl
theorem fa30_0 (a : Addr) : fieldAddrV TT 30 (.pointer (some a)) 0 = some (.pointer (some (a.add 0))) := by kernel_rfl
theorem fa30_1 (a : Addr) : fieldAddrV TT 30 (.pointer (some a)) 1 = some (.pointer (some (a.add 1))) := by kernel_rfl
theorem fa30_2 (a : Addr) : fieldAddrV TT 30 (.pointer (some a)) 2 = some (.pointer (some (a.add 2))) := by kernel_rfl
theorem fa30_3 (a : Addr) : fieldAddrV TT 30 (.pointer (some a)) 3 = some (.pointer (some (a.add 3))) := by kernel_rfl
theorem ld30 (h : Heap) (a : Addr) : loadV TT h 30 a = (hcells h a 0 4).map fun cs => .agg cs.toArray := by kernel_rfl
theorem st30 (h : Heap) (a : Addr) (v : Value) : storeV TT h 30 a v = if v.cells.size = 4 then hputs a h 0 v.cells.toList else none := by kernel_rfl
noncomputable def d30 : TypeDesc := (Try.prog.underlying 30).getD .bool
theorem T30 : TT 30 = some ⟨d30, 4, 80, .agg #[(.int .i64 0), (.slice none 0 0), (.slice none 0 0), (.slice none 0 0)]⟩ := by kernel_rfl
theorem fd30_0 (v0 v1 v2 v3 : Value) : fieldV TT 30 (.agg #[v0, v1, v2, v3]) 0 = some v0 := by kernel_rfl
theorem fd30_1 (v0 v1 v2 v3 : Value) : fieldV TT 30 (.agg #[v0, v1, v2, v3]) 1 = some v1 := by kernel_rfl
theorem fd30_2 (v0 v1 v2 v3 : Value) : fieldV TT 30 (.agg #[v0, v1, v2, v3]) 2 = some v2 := by kernel_rfl
theorem fd30_3 (v0 v1 v2 v3 : Value) : fieldV TT 30 (.agg #[v0, v1, v2, v3]) 3 = some v3 := by kernel_rfl
theorem ld32 (h : Heap) (a : Addr) : loadV TT h 32 a = hcell h a := by kernel_rfl
theorem st32 (h : Heap) (a : Addr) (v : Value) : storeV TT h 32 a v = if v.cells.size = 1 then hputs a h 0 v.cells.toList else none := by kernel_rfl
theorem fa33_0 (a : Addr) : fieldAddrV TT 33 (.pointer (some a)) 0 = some (.pointer (some (a.add 0))) := by kernel_rfl
theorem fa33_1 (a : Addr) : fieldAddrV TT 33 (.pointer (some a)) 1 = some (.pointer (some (a.add 1))) := by kernel_rfl
theorem fa33_2 (a : Addr) : fieldAddrV TT 33 (.pointer (some a)) 2 = some (.pointer (some (a.add 2))) := by kernel_rfl
theorem ld33 (h : Heap) (a : Addr) : loadV TT h 33 a = (hcells h a 0 3).map fun cs => .agg cs.toArray := by kernel_rfl
theorem st33 (h : Heap) (a : Addr) (v : Value) : storeV TT h 33 a v = if v.cells.size = 3 then hputs a h 0 v.cells.toList else none := by kernel_rfl
noncomputable def d33 : TypeDesc := (Try.prog.underlying 33).getD .bool
theorem T33 : TT 33 = some ⟨d33, 3, 56, .agg #[(.int .i64 0), (.slice none 0 0), (.slice none 0 0)]⟩ := by kernel_rfl
theorem fd33_0 (v0 v1 v2 : Value) : fieldV TT 33 (.agg #[v0, v1, v2]) 0 = some v0 := by kernel_rfl
theorem fd33_1 (v0 v1 v2 : Value) : fieldV TT 33 (.agg #[v0, v1, v2]) 1 = some v1 := by kernel_rfl
theorem fd33_2 (v0 v1 v2 : Value) : fieldV TT 33 (.agg #[v0, v1, v2]) 2 = some v2 := by kernel_rfl
theorem ld34 (h : Heap) (a : Addr) : loadV TT h 34 a = hcell h a := by kernel_rfl
theorem st34 (h : Heap) (a : Addr) (v : Value) : storeV TT h 34 a v = if v.cells.size = 1 then hputs a h 0 v.cells.toList else none := by kernel_rfl
theorem ld35 (h : Heap) (a : Addr) : loadV TT h 35 a = hcell h a := by kernel_rfl
theorem st35 (h : Heap) (a : Addr) (v : Value) : storeV TT h 35 a v = if v.cells.size = 1 then hputs a h 0 v.cells.toList else none := by kernel_rfl
theorem ld36 (h : Heap) (a : Addr) : loadV TT h 36 a = hcell h a := by kernel_rfl
theorem st36 (h : Heap) (a : Addr) (v : Value) : storeV TT h 36 a v = if v.cells.size = 1 then hputs a h 0 v.cells.toList else none := by kernel_rfl
theorem ld37 (h : Heap) (a : Addr) : loadV TT h 37 a = hcell h a := by kernel_rfl
theorem st37 (h : Heap) (a : Addr) (v : Value) : storeV TT h 37 a v = if v.cells.size = 1 then hputs a h 0 v.cells.toList else none := by kernel_rfl
theorem ld38 (h : Heap) (a : Addr) : loadV TT h 38 a = hcell h a := by kernel_rfl
theorem st38 (h : Heap) (a : Addr) (v : Value) : storeV TT h 38 a v = if v.cells.size = 1 then hputs a h 0 v.cells.toList else none := by kernel_rfl
theorem ld39 (h : Heap) (a : Addr) : loadV TT h 39 a = hcell h a := by kernel_rfl
theorem st39 (h : Heap) (a : Addr) (v : Value) : storeV TT h 39 a v = if v.cells.size = 1 then hputs a h 0 v.cells.toList else none := by kernel_rfl
theorem ld40 (h : Heap) (a : Addr) : loadV TT h 40 a = hcell h a := by kernel_rfl
theorem st40 (h : Heap) (a : Addr) (v : Value) : storeV TT h 40 a v = if v.cells.size = 1 then hputs a h 0 v.cells.toList else none := by kernel_rfl
theorem ld41 (h : Heap) (a : Addr) : loadV TT h 41 a = hcell h a := by kernel_rfl
theorem st41 (h : Heap) (a : Addr) (v : Value) : storeV TT h 41 a v = if v.cells.size = 1 then hputs a h 0 v.cells.toList else none := by kernel_rfl
theorem ld42 (h : Heap) (a : Addr) : loadV TT h 42 a = hcell h a := by kernel_rfl
theorem st42 (h : Heap) (a : Addr) (v : Value) : storeV TT h 42 a v = if v.cells.size = 1 then hputs a h 0 v.cells.toList else none := by kernel_rfl
theorem ld43 (h : Heap) (a : Addr) : loadV TT h 43 a = hcell h a := by kernel_rfl
theorem st43 (h : Heap) (a : Addr) (v : Value) : storeV TT h 43 a v = if v.cells.size = 1 then hputs a h 0 v.cells.toList else none := by kernel_rfl
theorem ld44 (h : Heap) (a : Addr) : loadV TT h 44 a = hcell h a := by kernel_rfl
theorem st44 (h : Heap) (a : Addr) (v : Value) : storeV TT h 44 a v = if v.cells.size = 1 then hputs a h 0 v.cells.toList else none := by kernel_rfl
theorem ld45 (h : Heap) (a : Addr) : loadV TT h 45 a = hcell h a := by kernel_rfl
theorem st45 (h : Heap) (a : Addr) (v : Value) : storeV TT h 45 a v = if v.cells.size = 1 then hputs a h 0 v.cells.toList else none := by kernel_rfl
theorem ld46 (h : Heap) (a : Addr) : loadV TT h 46 a = hcell h a := by kernel_rfl
theorem st46 (h : Heap) (a : Addr) (v : Value) : storeV TT h 46 a v = if v.cells.size = 1 then hputs a h 0 v.cells.toList else none := by kernel_rfl
theorem ld47 (h : Heap) (a : Addr) : loadV TT h 47 a = hcell h a := by kernel_rfl
theorem st47 (h : Heap) (a : Addr) (v : Value) : storeV TT h 47 a v = if v.cells.size = 1 then hputs a h 0 v.cells.toList else none := by kernel_rfl
theorem ld48 (h : Heap) (a : Addr) : loadV TT h 48 a = hcell h a := by kernel_rfl
theorem st48 (h : Heap) (a : Addr) (v : Value) : storeV TT h 48 a v = if v.cells.size = 1 then hputs a h 0 v.cells.toList else none := by kernel_rfl
theorem ld49 (h : Heap) (a : Addr) : loadV TT h 49 a = hcell h a := by kernel_rfl
theorem st49 (h : Heap) (a : Addr) (v : Value) : storeV TT h 49 a v = if v.cells.size = 1 then hputs a h 0 v.cells.toList else none := by kernel_rfl
theorem ld50 (h : Heap) (a : Addr) : loadV TT h 50 a = hcell h a := by kernel_rfl
theorem st50 (h : Heap) (a : Addr) (v : Value) : storeV TT h 50 a v = if v.cells.size = 1 then hputs a h 0 v.cells.toList else none := by kernel_rfl
theorem ld51 (h : Heap) (a : Addr) : loadV TT h 51 a = hcell h a := by kernel_rfl
theorem st51 (h : Heap) (a : Addr) (v : Value) : storeV TT h 51 a v = if v.cells.size = 1 then hputs a h 0 v.cells.toList else none := by kernel_rfl
theorem ld52 (h : Heap) (a : Addr) : loadV TT h 52 a = hcell h a := by kernel_rfl
theorem st52 (h : Heap) (a : Addr) (v : Value) : storeV TT h 52 a v = if v.cells.size = 1 then hputs a h 0 v.cells.toList else none := by kernel_rfl
theorem ld53 (h : Heap) (a : Addr) : loadV TT h 53 a = hcell h a := by kernel_rfl
theorem st53 (h : Heap) (a : Addr) (v : Value) : storeV TT h 53 a v = if v.cells.size = 1 then hputs a h 0 v.cells.toList else none := by kernel_rfl
theorem ld54 (h : Heap) (a : Addr) : loadV TT h 54 a = hcell h a := by kernel_rfl
theorem st54 (h : Heap) (a : Addr) (v : Value) : storeV TT h 54 a v = if v.cells.size = 1 then hputs a h 0 v.cells.toList else none := by kernel_rfl
theorem ld55 (h : Heap) (a : Addr) : loadV TT h 55 a = hcell h a := by kernel_rfl
theorem st55 (h : Heap) (a : Addr) (v : Value) : storeV TT h 55 a v = if v.cells.size = 1 then hputs a h 0 v.cells.toList else none := by kernel_rfl
theorem ld56 (h : Heap) (a : Addr) : loadV TT h 56 a = hcell h a := by kernel_rfl
theorem st56 (h : Heap) (a : Addr) (v : Value) : storeV TT h 56 a v = if v.cells.size = 1 then hputs a h 0 v.cells.toList else none := by kernel_rfl
theorem ld57 (h : Heap) (a : Addr) : loadV TT h 57 a = hcell h a := by kernel_rfl
theorem st57 (h : Heap) (a : Addr) (v : Value) : storeV TT h 57 a v = if v.cells.size = 1 then hputs a h 0 v.cells.toList else none := by kernel_rfl
theorem ld58 (h : Heap) (a : Addr) : loadV TT h 58 a = hcell h a := by kernel_rfl
theorem st58 (h : Heap) (a : Addr) (v : Value) : storeV TT h 58 a v = if v.cells.size = 1 then hputs a h 0 v.cells.toList else none := by kernel_rfl
theorem ld59 (h : Heap) (a : Addr) : loadV TT h 59 a = hcell h a := by kernel_rfl
theorem st59 (h : Heap) (a : Addr) (v : Value) : storeV TT h 59 a v = if v.cells.size = 1 then hputs a h 0 v.cells.toList else none := by kernel_rfl
theorem ld60 (h : Heap) (a : Addr) : loadV TT h 60 a = hcell h a := by kernel_rfl
theorem st60 (h : Heap) (a : Addr) (v : Value) : storeV TT h 60 a v = if v.cells.size = 1 then hputs a h 0 v.cells.toList else none := by kernel_rfl
theorem ld61 (h : Heap) (a : Addr) : loadV TT h 61 a = hcell h a := by kernel_rfl
theorem st61 (h : Heap) (a : Addr) (v : Value) : storeV TT h 61 a v = if v.cells.size = 1 then hputs a h 0 v.cells.toList else none := by kernel_rfl
theorem ld62 (h : Heap) (a : Addr) : loadV TT h 62 a = hcell h a := by kernel_rfl
theorem st62 (h : Heap) (a : Addr) (v : Value) : storeV TT h 62 a v = if v.cells.size = 1 then hputs a h 0 v.cells.toList else none := by kernel_rfl
theorem ld63 (h : Heap) (a : Addr) : loadV TT h 63 a = hcell h a := by kernel_rfl
theorem st63 (h : Heap) (a : Addr) (v : Value) : storeV TT h 63 a v = if v.cells.size = 1 then hputs a h 0 v.cells.toList else none := by kernel_rfl
theorem ld64 (h : Heap) (a : Addr) : loadV TT h 64 a = hcell h a := by kernel_rfl
theorem st64 (h : Heap) (a : Addr) (v : Value) : storeV TT h 64 a v = if v.cells.size = 1 then hputs a h 0 v.cells.toList else none := by kernel_rfl
theorem ld65 (h : Heap) (a : Addr) : loadV TT h 65 a = hcell h a := by kernel_rfl
theorem st65 (h : Heap) (a : Addr) (v : Value) : storeV TT h 65 a v = if v.cells.size = 1 then hputs a h 0 v.cells.toList else none := by kernel_rfl
theorem ld66 (h : Heap) (a : Addr) : loadV TT h 66 a = hcell h a := by kernel_rfl
theorem st66 (h : Heap) (a : Addr) (v : Value) : storeV TT h 66 a v = if v.cells.size = 1 then hputs a h 0 v.cells.toList else none := by kernel_rfl
theorem ld67 (h : Heap) (a : Addr) : loadV TT h 67 a = hcell h a := by kernel_rfl
theorem st67 (h : Heap) (a : Addr) (v : Value) : storeV TT h 67 a v = if v.cells.size = 1 then hputs a h 0 v.cells.toList else none := by kernel_rfl
theorem ld68 (h : Heap) (a : Addr) : loadV TT h 68 a = hcell h a := by kernel_rfl
theorem st68 (h : Heap) (a : Addr) (v : Value) : storeV TT h 68 a v = if v.cells.size = 1 then hputs a h 0 v.cells.toList else none := by kernel_rfl
theorem ld69 (h : Heap) (a : Addr) : loadV TT h 69 a = hcell h a := by kernel_rfl
theorem st69 (h : Heap) (a : Addr) (v : Value) : storeV TT h 69 a v = if v.cells.size = 1 then hputs a h 0 v.cells.toList else none := by kernel_rfl
theorem ld70 (h : Heap) (a : Addr) : loadV TT h 70 a = hcell h a := by kernel_rfl
theorem st70 (h : Heap) (a : Addr) (v : Value) : storeV TT h 70 a v = if v.cells.size = 1 then hputs a h 0 v.cells.toList else none := by kernel_rfl
theorem ld71 (h : Heap) (a : Addr) : loadV TT h 71 a = hcell h a := by kernel_rfl
theorem st71 (h : Heap) (a : Addr) (v : Value) : storeV TT h 71 a v = if v.cells.size = 1 then hputs a h 0 v.cells.toList else none := by kernel_rfl
theorem ld72 (h : Heap) (a : Addr) : loadV TT h 72 a = hcell h a := by kernel_rfl
theorem st72 (h : Heap) (a : Addr) (v : Value) : storeV TT h 72 a v = if v.cells.size = 1 then hputs a h 0 v.cells.toList else none := by kernel_rfl
theorem ld73 (h : Heap) (a : Addr) : loadV TT h 73 a = hcell h a := by kernel_rfl
theorem st73 (h : Heap) (a : Addr) (v : Value) : storeV TT h 73 a v = if v.cells.size = 1 then hputs a h 0 v.cells.toList else none := by kernel_rfl
theorem ld74 (h : Heap) (a : Addr) : loadV TT h 74 a = hcell h a := by kernel_rfl
theorem st74 (h : Heap) (a : Addr) (v : Value) : storeV TT h 74 a v = if v.cells.size = 1 then hputs a h 0 v.cells.toList else none := by kernel_rfl
theorem ld75 (h : Heap) (a : Addr) : loadV TT h 75 a = hcell h a := by kernel_rfl
theorem st75 (h : Heap) (a : Addr) (v : Value) : storeV TT h 75 a v = if v.cells.size = 1 then hputs a h 0 v.cells.toList else none := by kernel_rfl
theorem ld76 (h : Heap) (a : Addr) : loadV TT h 76 a = hcell h a := by kernel_rfl
theorem st76 (h : Heap) (a : Addr) (v : Value) : storeV TT h 76 a v = if v.cells.size = 1 then hputs a h 0 v.cells.toList else none := by kernel_rfl
theorem ld77 (h : Heap) (a : Addr) : loadV TT h 77 a = hcell h a := by kernel_rfl
theorem st77 (h : Heap) (a : Addr) (v : Value) : storeV TT h 77 a v = if v.cells.size = 1 then hputs a h 0 v.cells.toList else none := by kernel_rfl
theorem ld78 (h : Heap) (a : Addr) : loadV TT h 78 a = hcell h a := by kernel_rfl
theorem st78 (h : Heap) (a : Addr) (v : Value) : storeV TT h 78 a v = if v.cells.size = 1 then hputs a h 0 v.cells.toList else none := by kernel_rfl
theorem ld79 (h : Heap) (a : Addr) : loadV TT h 79 a = hcell h a := by kernel_rfl
theorem st79 (h : Heap) (a : Addr) (v : Value) : storeV TT h 79 a v = if v.cells.size = 1 then hputs a h 0 v.cells.toList else none := by kernel_rfl
theorem ld80 (h : Heap) (a : Addr) : loadV TT h 80 a = hcell h a := by kernel_rfl
theorem st80 (h : Heap) (a : Addr) (v : Value) : storeV TT h 80 a v = if v.cells.size = 1 then hputs a h 0 v.cells.toList else none := by kernel_rfl
theorem fa81_0 (a : Addr) : fieldAddrV TT 81 (.pointer (some a)) 0 = some (.pointer (some (a.add 0))) := by kernel_rfl
theorem fa81_1 (a : Addr) : fieldAddrV TT 81 (.pointer (some a)) 1 = some (.pointer (some (a.add 1))) := by kernel_rfl
theorem fa81_2 (a : Addr) : fieldAddrV TT 81 (.pointer (some a)) 2 = some (.pointer (some (a.add 2))) := by kernel_rfl
theorem fa81_3 (a : Addr) : fieldAddrV TT 81 (.pointer (some a)) 3 = some (.pointer (some (a.add 3))) := by kernel_rfl
theorem ld81 (h : Heap) (a : Addr) : loadV TT h 81 a = (hcells h a 0 4).map fun cs => .agg cs.toArray := by kernel_rfl
theorem st81 (h : Heap) (a : Addr) (v : Value) : storeV TT h 81 a v = if v.cells.size = 4 then hputs a h 0 v.cells.toList else none := by kernel_rfl
theorem fa82_0 (a : Addr) : fieldAddrV TT 82 (.pointer (some a)) 0 = some (.pointer (some (a.add 0))) := by kernel_rfl
theorem fa82_1 (a : Addr) : fieldAddrV TT 82 (.pointer (some a)) 1 = some (.pointer (some (a.add 1))) := by kernel_rfl
theorem fa82_2 (a : Addr) : fieldAddrV TT 82 (.pointer (some a)) 2 = some (.pointer (some (a.add 2))) := by kernel_rfl
theorem fa82_3 (a : Addr) : fieldAddrV TT 82 (.pointer (some a)) 3 = some (.pointer (some (a.add 3))) := by kernel_rfl
theorem ld82 (h : Heap) (a : Addr) : loadV TT h 82 a = (hcells h a 0 4).map fun cs => .agg cs.toArray := by kernel_rfl
theorem st82 (h : Heap) (a : Addr) (v : Value) : storeV TT h 82 a v = if v.cells.size = 4 then hputs a h 0 v.cells.toList else none := by kernel_rfl
theorem ld83 (h : Heap) (a : Addr) : loadV TT h 83 a = (hcells h a 0 0).map fun cs => .agg cs.toArray := by kernel_rfl
theorem st83 (h : Heap) (a : Addr) (v : Value) : storeV TT h 83 a v = if v.cells.size = 0 then hputs a h 0 v.cells.toList else none := by kernel_rfl
theorem ld84 (h : Heap) (a : Addr) : loadV TT h 84 a = (hcells h a 0 0).map fun cs => .agg cs.toArray := by kernel_rfl
theorem st84 (h : Heap) (a : Addr) (v : Value) : storeV TT h 84 a v = if v.cells.size = 0 then hputs a h 0 v.cells.toList else none := by kernel_rfl
noncomputable def d84 : TypeDesc := (Try.prog.underlying 84).getD .bool
theorem T84 : TT 84 = some ⟨d84, 0, 0, .agg #[]⟩ := by kernel_rfl
theorem ld85 (h : Heap) (a : Addr) : loadV TT h 85 a = (hcells h a 0 0).map fun cs => .agg cs.toArray := by kernel_rfl
theorem st85 (h : Heap) (a : Addr) (v : Value) : storeV TT h 85 a v = if v.cells.size = 0 then hputs a h 0 v.cells.toList else none := by kernel_rfl
noncomputable def d85 : TypeDesc := (Try.prog.underlying 85).getD .bool
theorem T85 : TT 85 = some ⟨d85, 0, 0, .agg #[]⟩ := by kernel_rfl
theorem ld86 (h : Heap) (a : Addr) : loadV TT h 86 a = hcell h a := by kernel_rfl
theorem st86 (h : Heap) (a : Addr) (v : Value) : storeV TT h 86 a v = if v.cells.size = 1 then hputs a h 0 v.cells.toList else none := by kernel_rfl
theorem T87 : TT 87 = some ⟨.int .u32, 1, 4, (.int .u32 0)⟩ := by kernel_rfl
theorem ld87 (h : Heap) (a : Addr) : loadV TT h 87 a = hcell h a := by kernel_rfl
theorem st87 (h : Heap) (a : Addr) (v : Value) : storeV TT h 87 a v = if v.cells.size = 1 then hputs a h 0 v.cells.toList else none := by kernel_rfl
theorem T88 : TT 88 = some ⟨.int .u8, 1, 1, (.int .u8 0)⟩ := by kernel_rfl
theorem ld88 (h : Heap) (a : Addr) : loadV TT h 88 a = hcell h a := by kernel_rfl
theorem st88 (h : Heap) (a : Addr) (v : Value) : storeV TT h 88 a v = if v.cells.size = 1 then hputs a h 0 v.cells.toList else none := by kernel_rfl
theorem T89 : TT 89 = some ⟨.int .u8, 1, 1, (.int .u8 0)⟩ := by kernel_rfl
theorem ld89 (h : Heap) (a : Addr) : loadV TT h 89 a = hcell h a := by kernel_rfl
theorem st89 (h : Heap) (a : Addr) (v : Value) : storeV TT h 89 a v = if v.cells.size = 1 then hputs a h 0 v.cells.toList else none := by kernel_rfl
theorem ld90 (h : Heap) (a : Addr) : loadV TT h 90 a = hcell h a := by kernel_rfl
theorem st90 (h : Heap) (a : Addr) (v : Value) : storeV TT h 90 a v = if v.cells.size = 1 then hputs a h 0 v.cells.toList else none := by kernel_rfl
theorem ld91 (h : Heap) (a : Addr) : loadV TT h 91 a = hcell h a := by kernel_rfl
theorem st91 (h : Heap) (a : Addr) (v : Value) : storeV TT h 91 a v = if v.cells.size = 1 then hputs a h 0 v.cells.toList else none := by kernel_rfl
theorem T92 : TT 92 = some ⟨.int .i32, 1, 4, (.int .i32 0)⟩ := by kernel_rfl
theorem ld92 (h : Heap) (a : Addr) : loadV TT h 92 a = hcell h a := by kernel_rfl
theorem st92 (h : Heap) (a : Addr) (v : Value) : storeV TT h 92 a v = if v.cells.size = 1 then hputs a h 0 v.cells.toList else none := by kernel_rfl
theorem T93 : TT 93 = some ⟨.int .i32, 1, 4, (.int .i32 0)⟩ := by kernel_rfl
theorem ld93 (h : Heap) (a : Addr) : loadV TT h 93 a = hcell h a := by kernel_rfl
theorem st93 (h : Heap) (a : Addr) (v : Value) : storeV TT h 93 a v = if v.cells.size = 1 then hputs a h 0 v.cells.toList else none := by kernel_rfl
theorem fa94_0 (a : Addr) : fieldAddrV TT 94 (.pointer (some a)) 0 = some (.pointer (some (a.add 0))) := by kernel_rfl
theorem fa94_1 (a : Addr) : fieldAddrV TT 94 (.pointer (some a)) 1 = some (.pointer (some (a.add 1))) := by kernel_rfl
theorem fa94_2 (a : Addr) : fieldAddrV TT 94 (.pointer (some a)) 2 = some (.pointer (some (a.add 2))) := by kernel_rfl
theorem fa94_3 (a : Addr) : fieldAddrV TT 94 (.pointer (some a)) 3 = some (.pointer (some (a.add 3))) := by kernel_rfl
theorem fa94_4 (a : Addr) : fieldAddrV TT 94 (.pointer (some a)) 4 = some (.pointer (some (a.add 4))) := by kernel_rfl
theorem fa94_5 (a : Addr) : fieldAddrV TT 94 (.pointer (some a)) 5 = some (.pointer (some (a.add 5))) := by kernel_rfl
theorem fa94_6 (a : Addr) : fieldAddrV TT 94 (.pointer (some a)) 6 = some (.pointer (some (a.add 6))) := by kernel_rfl
theorem fa94_7 (a : Addr) : fieldAddrV TT 94 (.pointer (some a)) 7 = some (.pointer (some (a.add 7))) := by kernel_rfl
theorem fa94_8 (a : Addr) : fieldAddrV TT 94 (.pointer (some a)) 8 = some (.pointer (some (a.add 8))) := by kernel_rfl
theorem fa94_9 (a : Addr) : fieldAddrV TT 94 (.pointer (some a)) 9 = some (.pointer (some (a.add 9))) := by kernel_rfl
theorem fa94_10 (a : Addr) : fieldAddrV TT 94 (.pointer (some a)) 10 = some (.pointer (some (a.add 10))) := by kernel_rfl
theorem ld94 (h : Heap) (a : Addr) : loadV TT h 94 a = (hcells h a 0 11).map fun cs => .agg cs.toArray := by kernel_rfl
theorem st94 (h : Heap) (a : Addr) (v : Value) : storeV TT h 94 a v = if v.cells.size = 11 then hputs a h 0 v.cells.toList else none := by kernel_rfl
theorem fa95_0 (a : Addr) : fieldAddrV TT 95 (.pointer (some a)) 0 = some (.pointer (some (a.add 0))) := by kernel_rfl
theorem fa95_1 (a : Addr) : fieldAddrV TT 95 (.pointer (some a)) 1 = some (.pointer (some (a.add 1))) := by kernel_rfl
theorem fa95_2 (a : Addr) : fieldAddrV TT 95 (.pointer (some a)) 2 = some (.pointer (some (a.add 2))) := by kernel_rfl
theorem fa95_3 (a : Addr) : fieldAddrV TT 95 (.pointer (some a)) 3 = some (.pointer (some (a.add 3))) := by kernel_rfl
theorem fa95_4 (a : Addr) : fieldAddrV TT 95 (.pointer (some a)) 4 = some (.pointer (some (a.add 4))) := by kernel_rfl
theorem fa95_5 (a : Addr) : fieldAddrV TT 95 (.pointer (some a)) 5 = some (.pointer (some (a.add 5))) := by kernel_rfl
theorem fa95_6 (a : Addr) : fieldAddrV TT 95 (.pointer (some a)) 6 = some (.pointer (some (a.add 6))) := by kernel_rfl
theorem fa95_7 (a : Addr) : fieldAddrV TT 95 (.pointer (some a)) 7 = some (.pointer (some (a.add 7))) := by kernel_rfl
theorem fa95_8 (a : Addr) : fieldAddrV TT 95 (.pointer (some a)) 8 = some (.pointer (some (a.add 8))) := by kernel_rfl
theorem fa95_9 (a : Addr) : fieldAddrV TT 95 (.pointer (some a)) 9 = some (.pointer (some (a.add 9))) := by kernel_rfl
theorem fa95_10 (a : Addr) : fieldAddrV TT 95 (.pointer (some a)) 10 = some (.pointer (some (a.add 10))) := by kernel_rfl
theorem ld95 (h : Heap) (a : Addr) : loadV TT h 95 a = (hcells h a 0 11).map fun cs => .agg cs.toArray := by kernel_rfl
theorem st95 (h : Heap) (a : Addr) (v : Value) : storeV TT h 95 a v = if v.cells.size = 11 then hputs a h 0 v.cells.toList else none := by kernel_rfl
theorem sl22 : SlT TT 22 2 := ⟨⟨_, _, T22, rfl, T2, rfl⟩⟩
theorem sz22 : SlZ TT 22 2 8 (.int .i64 0) := ⟨by kernel_rfl, rfl, by decide, by kernel_rfl⟩
theorem sl23 : SlT TT 23 27 := ⟨⟨_, _, T23, rfl, T27, rfl⟩⟩
theorem sz23 : SlZ TT 23 27 24 (.slice none 0 0) := ⟨by kernel_rfl, rfl, by decide, by kernel_rfl⟩
theorem sl27 : SlT TT 27 22 := ⟨⟨_, _, T27, rfl, T22, rfl⟩⟩
theorem sz27 : SlZ TT 27 22 24 (.slice none 0 0) := ⟨by kernel_rfl, rfl, by decide, by kernel_rfl⟩
theorem sl28 : SlT TT 28 23 := ⟨⟨_, _, T28, rfl, T23, rfl⟩⟩
theorem sz28 : SlZ TT 28 23 24 (.slice none 0 0) := ⟨by kernel_rfl, rfl, by decide, by kernel_rfl⟩
end Go.Proofs.Ytkdnnfkdgmblgaa
