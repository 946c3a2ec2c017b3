/-
  No cell of these rows narrows 'for every input' (looked for: loops, veiled, ifaces, maps, wideKeys, modest, calm, conditions, laid).
  DERIVED. THE GIVEN ROWS OF THIS SEAT. 5 by the template 'for every input the law returns true; each argument reads behind the call as it read before'; 0 by the template 'total and deterministic' (their statements: YtacajcjibhifmaaTotals.lean).
  GIVEN WITH THE SEED: the statements are not yours to turn. If you find one false, say at which input.
  Laid BY PROGRAM, IN A SANDBOX (cutbox-rows.mjs): the forced cells as the released guide's own fill.sh prints them over the translation 2d344f12417ac176… (all of the seat's roots in one cut). By AI agents, Wed Nov 11 2026. No macro, syntax, notation, axiom, sorry.
-/
import Derived.Test.YtacajcjibhifmaaChecked
import GoSem.Claim
import GoSem.ClaimJoined
import GoSem.ClaimMapViews
import Derived.JoinedTies
import Derived.KernelRfl
namespace Go.Proofs.Ytacajcjibhifmaa
/- THE CELL 'sum', in the pinned program and in every row, IS THE sha256 OF THE DUMP (.gsa) THAT YtacajcjibhifmaaProg.lean LOADS. Nothing in Lean hashes anything: it is a label: what it is worth is what the hold of that sum in a sandbox is worth. -/
noncomputable def Try.pinned : Pinned := { name := "ytacajcjibhifmaa", sum := "2d344f12417ac1765674669b36107ba7801650f0c42498116178af39ed421f8e", checked := Try.checked }
namespace Rows
def none {H : Type} : Left H := { results := [], args := [] }

/-- 'laws.FnExactIsGradedCommutative': WHATEVER THE INPUT: true; the input reads as it did. -/
def fnExactIsGradedCommutativeSpec : ChangeSpec := { name := "fnExactIsGradedCommutative", fn := fun _ => fun
  | [d] => { results := [.lit (.bool true)], args := [d] }
  | _ => none }
def fnExactIsGradedCommutativeRow : OpenClaim := { program := "ytacajcjibhifmaa", sum := "2d344f12417ac1765674669b36107ba7801650f0c42498116178af39ed421f8e", func := "loop.example/g01273/laws.FnExactIsGradedCommutative", spec := "fnExactIsGradedCommutative", apart := false }
def FnExactIsGradedCommutativeSaid : Prop := fnExactIsGradedCommutativeRow.holds Try.pinned (OpenSpec.ofChange fnExactIsGradedCommutativeSpec)

/-- ITS FALSE NEIGHBOUR: 'it returns false'. Refute it at one input. -/
def fnExactIsGradedCommutativeWrong : ChangeSpec := { name := "fnExactIsGradedCommutative", fn := fun _ => fun
  | [d] => { results := [.lit (.bool false)], args := [d] }
  | _ => none }
def FnExactIsGradedCommutativeWrongFalsely : Prop := fnExactIsGradedCommutativeRow.holds Try.pinned (OpenSpec.ofChange fnExactIsGradedCommutativeWrong)

/-- 'laws.FnDgas': WHATEVER THE INPUT: true; the input reads as it did. -/
def fnDgasSpec : ChangeSpec := { name := "fnDgas", fn := fun _ => fun
  | [d] => { results := [.lit (.bool true)], args := [d] }
  | _ => none }
def fnDgasRow : OpenClaim := { program := "ytacajcjibhifmaa", sum := "2d344f12417ac1765674669b36107ba7801650f0c42498116178af39ed421f8e", func := "loop.example/g01273/laws.FnDgas", spec := "fnDgas", unfollowed := true, recurses := true, apart := false }
def FnDgasSaid : Prop := fnDgasRow.holds Try.pinned (OpenSpec.ofChange fnDgasSpec)

/-- ITS FALSE NEIGHBOUR: 'it returns false'. Refute it at one input. -/
def fnDgasWrong : ChangeSpec := { name := "fnDgas", fn := fun _ => fun
  | [d] => { results := [.lit (.bool false)], args := [d] }
  | _ => none }
def FnDgasWrongFalsely : Prop := fnDgasRow.holds Try.pinned (OpenSpec.ofChange fnDgasWrong)

/-- 'laws.FnExactFilteredOf': WHATEVER THE INPUT: true; the input reads as it did. -/
def fnExactFilteredOfSpec : ChangeSpec := { name := "fnExactFilteredOf", fn := fun _ => fun
  | [d] => { results := [.lit (.bool true)], args := [d] }
  | _ => none }
def fnExactFilteredOfRow : OpenClaim := { program := "ytacajcjibhifmaa", sum := "2d344f12417ac1765674669b36107ba7801650f0c42498116178af39ed421f8e", func := "loop.example/g01273/laws.FnExactFilteredOf", spec := "fnExactFilteredOf", apart := false }
def FnExactFilteredOfSaid : Prop := fnExactFilteredOfRow.holds Try.pinned (OpenSpec.ofChange fnExactFilteredOfSpec)

/-- ITS FALSE NEIGHBOUR: 'it returns false'. Refute it at one input. -/
def fnExactFilteredOfWrong : ChangeSpec := { name := "fnExactFilteredOf", fn := fun _ => fun
  | [d] => { results := [.lit (.bool false)], args := [d] }
  | _ => none }
def FnExactFilteredOfWrongFalsely : Prop := fnExactFilteredOfRow.holds Try.pinned (OpenSpec.ofChange fnExactFilteredOfWrong)

/-- 'laws.FnExactTensorDga': WHATEVER THE INPUT: true; the input reads as it did. -/
def fnExactTensorDgaSpec : ChangeSpec := { name := "fnExactTensorDga", fn := fun _ => fun
  | [d1, d2] => { results := [.lit (.bool true)], args := [d1, d2] }
  | _ => none }
def fnExactTensorDgaRow : OpenClaim := { program := "ytacajcjibhifmaa", sum := "2d344f12417ac1765674669b36107ba7801650f0c42498116178af39ed421f8e", func := "loop.example/g01273/laws.FnExactTensorDga", spec := "fnExactTensorDga", unfollowed := true, recurses := true, apart := false }
def FnExactTensorDgaSaid : Prop := fnExactTensorDgaRow.holds Try.pinned (OpenSpec.ofChange fnExactTensorDgaSpec)

/-- ITS FALSE NEIGHBOUR: 'it returns false'. Refute it at one input. -/
def fnExactTensorDgaWrong : ChangeSpec := { name := "fnExactTensorDga", fn := fun _ => fun
  | [d1, d2] => { results := [.lit (.bool false)], args := [d1, d2] }
  | _ => none }
def FnExactTensorDgaWrongFalsely : Prop := fnExactTensorDgaRow.holds Try.pinned (OpenSpec.ofChange fnExactTensorDgaWrong)

/-- 'laws.FnExactHomologySizes': WHATEVER THE INPUT: true; the input reads as it did. -/
def fnExactHomologySizesSpec : ChangeSpec := { name := "fnExactHomologySizes", fn := fun _ => fun
  | [d] => { results := [.lit (.bool true)], args := [d] }
  | _ => none }
def fnExactHomologySizesRow : OpenClaim := { program := "ytacajcjibhifmaa", sum := "2d344f12417ac1765674669b36107ba7801650f0c42498116178af39ed421f8e", func := "loop.example/g01273/laws.FnExactHomologySizes", spec := "fnExactHomologySizes", unfollowed := true, recurses := true, apart := false }
def FnExactHomologySizesSaid : Prop := fnExactHomologySizesRow.holds Try.pinned (OpenSpec.ofChange fnExactHomologySizesSpec)

/-- ITS FALSE NEIGHBOUR: 'it returns false'. Refute it at one input. -/
def fnExactHomologySizesWrong : ChangeSpec := { name := "fnExactHomologySizes", fn := fun _ => fun
  | [d] => { results := [.lit (.bool false)], args := [d] }
  | _ => none }
def FnExactHomologySizesWrongFalsely : Prop := fnExactHomologySizesRow.holds Try.pinned (OpenSpec.ofChange fnExactHomologySizesWrong)

/- THE SECOND FORM. 'bulk': how many values and letters a reading holds, each counted each time it is reached (what is shared counts as often as it is met; a slice's spare places count too). A statement '..UptoSaid' is the law's where the arguments, and the package variables that the reading takes, are together of bulk at most 1048576: NARROWER than '..Said'. Prove '..Said' where nothing that the law and all that it calls make is longer than what came in: it says more and counts as full. Else prove '..UptoSaid'. A law counts once. -/
mutual
def uptoBulk {H : Type} : DataW H → Nat
  | .lit (.string bytes) => bytes.length + 1
  | .lit _ => 1
  | .nil => 1
  | .ptr d => uptoBulk d + 1
  | .slice elems spare => uptoBulkAll elems + uptoBulkAll spare + 1
  | .agg parts => uptoBulkAll parts + 1
  | .iface _ d => uptoBulk d + 1
  | .map entries => uptoBulkEntries entries + 1
  | .held _ => 1
def uptoBulkAll {H : Type} : List (DataW H) → Nat
  | [] => 0
  | d :: r => uptoBulk d + uptoBulkAll r
def uptoBulkEntries {H : Type} : List (Lit × DataW H) → Nat
  | [] => 0
  | x :: r => uptoBulkEntry x + uptoBulkEntries r
def uptoBulkEntry {H : Type} : Lit × DataW H → Nat
  | (.string bytes, d) => bytes.length + uptoBulk d + 1
  | (_, d) => uptoBulk d + 1
 end
def uptoSmall : (H : Type) → List (DataW H) → Bool := fun _ ds => decide (uptoBulkAll ds ≤ 1048576)
def OpenSpec.upto (s : _root_.Go.ChangeSpec) : _root_.Go.OpenSpec := { _root_.Go.OpenSpec.ofChange s with cond := some uptoSmall }

/-- 'laws.FnExactIsGradedCommutative', WHERE WHAT IT READS IS OF BULK AT MOST 1048576: true; the input reads as it did. -/
def fnExactIsGradedCommutativeUptoRow : OpenClaim := { program := "ytacajcjibhifmaa", sum := "2d344f12417ac1765674669b36107ba7801650f0c42498116178af39ed421f8e", func := "loop.example/g01273/laws.FnExactIsGradedCommutative", spec := "fnExactIsGradedCommutative", apart := false, narrowed := true }
def FnExactIsGradedCommutativeUptoSaid : Prop := fnExactIsGradedCommutativeUptoRow.holds Try.pinned (OpenSpec.upto fnExactIsGradedCommutativeSpec)

/-- 'laws.FnDgas', WHERE WHAT IT READS IS OF BULK AT MOST 1048576: true; the input reads as it did. -/
def fnDgasUptoRow : OpenClaim := { program := "ytacajcjibhifmaa", sum := "2d344f12417ac1765674669b36107ba7801650f0c42498116178af39ed421f8e", func := "loop.example/g01273/laws.FnDgas", spec := "fnDgas", unfollowed := true, recurses := true, apart := false, narrowed := true }
def FnDgasUptoSaid : Prop := fnDgasUptoRow.holds Try.pinned (OpenSpec.upto fnDgasSpec)

/-- 'laws.FnExactFilteredOf', WHERE WHAT IT READS IS OF BULK AT MOST 1048576: true; the input reads as it did. -/
def fnExactFilteredOfUptoRow : OpenClaim := { program := "ytacajcjibhifmaa", sum := "2d344f12417ac1765674669b36107ba7801650f0c42498116178af39ed421f8e", func := "loop.example/g01273/laws.FnExactFilteredOf", spec := "fnExactFilteredOf", apart := false, narrowed := true }
def FnExactFilteredOfUptoSaid : Prop := fnExactFilteredOfUptoRow.holds Try.pinned (OpenSpec.upto fnExactFilteredOfSpec)

/-- 'laws.FnExactTensorDga', WHERE WHAT IT READS IS OF BULK AT MOST 1048576: true; the input reads as it did. -/
def fnExactTensorDgaUptoRow : OpenClaim := { program := "ytacajcjibhifmaa", sum := "2d344f12417ac1765674669b36107ba7801650f0c42498116178af39ed421f8e", func := "loop.example/g01273/laws.FnExactTensorDga", spec := "fnExactTensorDga", unfollowed := true, recurses := true, apart := false, narrowed := true }
def FnExactTensorDgaUptoSaid : Prop := fnExactTensorDgaUptoRow.holds Try.pinned (OpenSpec.upto fnExactTensorDgaSpec)

/-- 'laws.FnExactHomologySizes', WHERE WHAT IT READS IS OF BULK AT MOST 1048576: true; the input reads as it did. -/
def fnExactHomologySizesUptoRow : OpenClaim := { program := "ytacajcjibhifmaa", sum := "2d344f12417ac1765674669b36107ba7801650f0c42498116178af39ed421f8e", func := "loop.example/g01273/laws.FnExactHomologySizes", spec := "fnExactHomologySizes", unfollowed := true, recurses := true, apart := false, narrowed := true }
def FnExactHomologySizesUptoSaid : Prop := fnExactHomologySizesUptoRow.holds Try.pinned (OpenSpec.upto fnExactHomologySizesSpec)

end Rows
end Go.Proofs.Ytacajcjibhifmaa
