/-
  No cell of these rows narrows 'for every input' (looked for: loops, veiled, ifaces, maps, wideKeys, modest, calm, conditions, laid).
  DERIVED. THE GIVEN ROWS OF THIS SEAT. 12 by the template 'for every input the law returns true; each argument reads behind the call as it read before'; 0 by the template 'total and deterministic' (their statements: YtkkjhomhndpphaaTotals.lean).
  GIVEN WITH THE SEED: the statements are not yours to turn. If you find one false, say at which input.
  Laid BY PROGRAM, IN A SANDBOX (cutbox-rows.mjs): the forced cells as the released guide's own fill.sh prints them over the translation 71642190ea0204fc… (all of the seat's roots in one cut). By AI agents, Wed Nov 11 2026. No macro, syntax, notation, axiom, sorry.
-/
import Derived.Test.YtkkjhomhndpphaaChecked
import GoSem.Claim
import GoSem.ClaimJoined
import GoSem.ClaimMapViews
import Derived.JoinedTies
import Derived.KernelRfl
namespace Go.Proofs.Ytkkjhomhndpphaa
/- THE CELL 'sum', in the pinned program and in every row, IS THE sha256 OF THE DUMP (.gsa) THAT YtkkjhomhndpphaaProg.lean LOADS. Nothing in Lean hashes anything: it is a label: what it is worth is what the hold of that sum in a sandbox is worth. -/
noncomputable def Try.pinned : Pinned := { name := "ytkkjhomhndpphaa", sum := "71642190ea0204fc5bb6211f62b059cbe8d510a8c5810df6d96a9532a0548d9f", checked := Try.checked }
namespace Rows
def none {H : Type} : Left H := { results := [], args := [] }

/-- 'laws.FnExactIsGradedCommutative': WHATEVER THE INPUT: true; the input reads as it did. -/
def fnExactIsGradedCommutativeSpec : ChangeSpec := { name := "fnExactIsGradedCommutative", fn := fun _ => fun
  | [d] => { results := [.lit (.bool true)], args := [d] }
  | _ => none }
def fnExactIsGradedCommutativeRow : OpenClaim := { program := "ytkkjhomhndpphaa", sum := "71642190ea0204fc5bb6211f62b059cbe8d510a8c5810df6d96a9532a0548d9f", func := "loop.example/g01273/laws.FnExactIsGradedCommutative", spec := "fnExactIsGradedCommutative", apart := false }
def FnExactIsGradedCommutativeSaid : Prop := fnExactIsGradedCommutativeRow.holds Try.pinned (OpenSpec.ofChange fnExactIsGradedCommutativeSpec)

/-- ITS FALSE NEIGHBOUR: 'it returns false'. Refute it at one input. -/
def fnExactIsGradedCommutativeWrong : ChangeSpec := { name := "fnExactIsGradedCommutative", fn := fun _ => fun
  | [d] => { results := [.lit (.bool false)], args := [d] }
  | _ => none }
def FnExactIsGradedCommutativeWrongFalsely : Prop := fnExactIsGradedCommutativeRow.holds Try.pinned (OpenSpec.ofChange fnExactIsGradedCommutativeWrong)

/-- 'laws.FnExactPlaceOfPair': WHATEVER THE INPUT: true; the input reads as it did. -/
def fnExactPlaceOfPairSpec : ChangeSpec := { name := "fnExactPlaceOfPair", fn := fun _ => fun
  | [d1, d2, d3, d4, d5, d6] => { results := [.lit (.bool true)], args := [d1, d2, d3, d4, d5, d6] }
  | _ => none }
def fnExactPlaceOfPairRow : OpenClaim := { program := "ytkkjhomhndpphaa", sum := "71642190ea0204fc5bb6211f62b059cbe8d510a8c5810df6d96a9532a0548d9f", func := "loop.example/g01273/laws.FnExactPlaceOfPair", spec := "fnExactPlaceOfPair", unfollowed := true, recurses := true, apart := false }
def FnExactPlaceOfPairSaid : Prop := fnExactPlaceOfPairRow.holds Try.pinned (OpenSpec.ofChange fnExactPlaceOfPairSpec)

/-- ITS FALSE NEIGHBOUR: 'it returns false'. Refute it at one input. -/
def fnExactPlaceOfPairWrong : ChangeSpec := { name := "fnExactPlaceOfPair", fn := fun _ => fun
  | [d1, d2, d3, d4, d5, d6] => { results := [.lit (.bool false)], args := [d1, d2, d3, d4, d5, d6] }
  | _ => none }
def FnExactPlaceOfPairWrongFalsely : Prop := fnExactPlaceOfPairRow.holds Try.pinned (OpenSpec.ofChange fnExactPlaceOfPairWrong)

/-- 'laws.FnExactZeroMaps': WHATEVER THE INPUT: true; the input reads as it did. -/
def fnExactZeroMapsSpec : ChangeSpec := { name := "fnExactZeroMaps", fn := fun _ => fun
  | [d] => { results := [.lit (.bool true)], args := [d] }
  | _ => none }
def fnExactZeroMapsRow : OpenClaim := { program := "ytkkjhomhndpphaa", sum := "71642190ea0204fc5bb6211f62b059cbe8d510a8c5810df6d96a9532a0548d9f", func := "loop.example/g01273/laws.FnExactZeroMaps", spec := "fnExactZeroMaps", unfollowed := true, recurses := true, apart := false }
def FnExactZeroMapsSaid : Prop := fnExactZeroMapsRow.holds Try.pinned (OpenSpec.ofChange fnExactZeroMapsSpec)

/-- ITS FALSE NEIGHBOUR: 'it returns false'. Refute it at one input. -/
def fnExactZeroMapsWrong : ChangeSpec := { name := "fnExactZeroMaps", fn := fun _ => fun
  | [d] => { results := [.lit (.bool false)], args := [d] }
  | _ => none }
def FnExactZeroMapsWrongFalsely : Prop := fnExactZeroMapsRow.holds Try.pinned (OpenSpec.ofChange fnExactZeroMapsWrong)

/-- 'laws.FnExactDifferentialOf': WHATEVER THE INPUT: true; the input reads as it did. -/
def fnExactDifferentialOfSpec : ChangeSpec := { name := "fnExactDifferentialOf", fn := fun _ => fun
  | [d1, d2, d3] => { results := [.lit (.bool true)], args := [d1, d2, d3] }
  | _ => none }
def fnExactDifferentialOfRow : OpenClaim := { program := "ytkkjhomhndpphaa", sum := "71642190ea0204fc5bb6211f62b059cbe8d510a8c5810df6d96a9532a0548d9f", func := "loop.example/g01273/laws.FnExactDifferentialOf", spec := "fnExactDifferentialOf", unfollowed := true, recurses := true, apart := false }
def FnExactDifferentialOfSaid : Prop := fnExactDifferentialOfRow.holds Try.pinned (OpenSpec.ofChange fnExactDifferentialOfSpec)

/-- ITS FALSE NEIGHBOUR: 'it returns false'. Refute it at one input. -/
def fnExactDifferentialOfWrong : ChangeSpec := { name := "fnExactDifferentialOf", fn := fun _ => fun
  | [d1, d2, d3] => { results := [.lit (.bool false)], args := [d1, d2, d3] }
  | _ => none }
def FnExactDifferentialOfWrongFalsely : Prop := fnExactDifferentialOfRow.holds Try.pinned (OpenSpec.ofChange fnExactDifferentialOfWrong)

/-- 'laws.FnExactIdentityMap': WHATEVER THE INPUT: true; the input reads as it did. -/
def fnExactIdentityMapSpec : ChangeSpec := { name := "fnExactIdentityMap", fn := fun _ => fun
  | [d] => { results := [.lit (.bool true)], args := [d] }
  | _ => none }
def fnExactIdentityMapRow : OpenClaim := { program := "ytkkjhomhndpphaa", sum := "71642190ea0204fc5bb6211f62b059cbe8d510a8c5810df6d96a9532a0548d9f", func := "loop.example/g01273/laws.FnExactIdentityMap", spec := "fnExactIdentityMap", unfollowed := true, recurses := true, apart := false }
def FnExactIdentityMapSaid : Prop := fnExactIdentityMapRow.holds Try.pinned (OpenSpec.ofChange fnExactIdentityMapSpec)

/-- ITS FALSE NEIGHBOUR: 'it returns false'. Refute it at one input. -/
def fnExactIdentityMapWrong : ChangeSpec := { name := "fnExactIdentityMap", fn := fun _ => fun
  | [d] => { results := [.lit (.bool false)], args := [d] }
  | _ => none }
def FnExactIdentityMapWrongFalsely : Prop := fnExactIdentityMapRow.holds Try.pinned (OpenSpec.ofChange fnExactIdentityMapWrong)

/-- 'laws.FnExactAreHomotopic': WHATEVER THE INPUT: true; the input reads as it did. -/
def fnExactAreHomotopicSpec : ChangeSpec := { name := "fnExactAreHomotopic", fn := fun _ => fun
  | [d1, d2, d3, d4] => { results := [.lit (.bool true)], args := [d1, d2, d3, d4] }
  | _ => none }
def fnExactAreHomotopicRow : OpenClaim := { program := "ytkkjhomhndpphaa", sum := "71642190ea0204fc5bb6211f62b059cbe8d510a8c5810df6d96a9532a0548d9f", func := "loop.example/g01273/laws.FnExactAreHomotopic", spec := "fnExactAreHomotopic", unfollowed := true, recurses := true, apart := false }
def FnExactAreHomotopicSaid : Prop := fnExactAreHomotopicRow.holds Try.pinned (OpenSpec.ofChange fnExactAreHomotopicSpec)

/-- ITS FALSE NEIGHBOUR: 'it returns false'. Refute it at one input. -/
def fnExactAreHomotopicWrong : ChangeSpec := { name := "fnExactAreHomotopic", fn := fun _ => fun
  | [d1, d2, d3, d4] => { results := [.lit (.bool false)], args := [d1, d2, d3, d4] }
  | _ => none }
def FnExactAreHomotopicWrongFalsely : Prop := fnExactAreHomotopicRow.holds Try.pinned (OpenSpec.ofChange fnExactAreHomotopicWrong)

/-- 'laws.FnExactTensorDims': WHATEVER THE INPUT: true; the input reads as it did. -/
def fnExactTensorDimsSpec : ChangeSpec := { name := "fnExactTensorDims", fn := fun _ => fun
  | [d1, d2] => { results := [.lit (.bool true)], args := [d1, d2] }
  | _ => none }
def fnExactTensorDimsRow : OpenClaim := { program := "ytkkjhomhndpphaa", sum := "71642190ea0204fc5bb6211f62b059cbe8d510a8c5810df6d96a9532a0548d9f", func := "loop.example/g01273/laws.FnExactTensorDims", spec := "fnExactTensorDims", unfollowed := true, recurses := true, apart := false }
def FnExactTensorDimsSaid : Prop := fnExactTensorDimsRow.holds Try.pinned (OpenSpec.ofChange fnExactTensorDimsSpec)

/-- ITS FALSE NEIGHBOUR: 'it returns false'. Refute it at one input. -/
def fnExactTensorDimsWrong : ChangeSpec := { name := "fnExactTensorDims", fn := fun _ => fun
  | [d1, d2] => { results := [.lit (.bool false)], args := [d1, d2] }
  | _ => none }
def FnExactTensorDimsWrongFalsely : Prop := fnExactTensorDimsRow.holds Try.pinned (OpenSpec.ofChange fnExactTensorDimsWrong)

/-- 'laws.FnExactIsFiltered': WHATEVER THE INPUT: true; the input reads as it did. -/
def fnExactIsFilteredSpec : ChangeSpec := { name := "fnExactIsFiltered", fn := fun _ => fun
  | [d] => { results := [.lit (.bool true)], args := [d] }
  | _ => none }
def fnExactIsFilteredRow : OpenClaim := { program := "ytkkjhomhndpphaa", sum := "71642190ea0204fc5bb6211f62b059cbe8d510a8c5810df6d96a9532a0548d9f", func := "loop.example/g01273/laws.FnExactIsFiltered", spec := "fnExactIsFiltered", unfollowed := true, recurses := true, apart := false }
def FnExactIsFilteredSaid : Prop := fnExactIsFilteredRow.holds Try.pinned (OpenSpec.ofChange fnExactIsFilteredSpec)

/-- ITS FALSE NEIGHBOUR: 'it returns false'. Refute it at one input. -/
def fnExactIsFilteredWrong : ChangeSpec := { name := "fnExactIsFiltered", fn := fun _ => fun
  | [d] => { results := [.lit (.bool false)], args := [d] }
  | _ => none }
def FnExactIsFilteredWrongFalsely : Prop := fnExactIsFilteredRow.holds Try.pinned (OpenSpec.ofChange fnExactIsFilteredWrong)

/-- 'laws.FnExactZeroFamily': WHATEVER THE INPUT: true; the input reads as it did. -/
def fnExactZeroFamilySpec : ChangeSpec := { name := "fnExactZeroFamily", fn := fun _ => fun
  | [d1, d2, d3] => { results := [.lit (.bool true)], args := [d1, d2, d3] }
  | _ => none }
def fnExactZeroFamilyRow : OpenClaim := { program := "ytkkjhomhndpphaa", sum := "71642190ea0204fc5bb6211f62b059cbe8d510a8c5810df6d96a9532a0548d9f", func := "loop.example/g01273/laws.FnExactZeroFamily", spec := "fnExactZeroFamily", unfollowed := true, recurses := true, apart := false }
def FnExactZeroFamilySaid : Prop := fnExactZeroFamilyRow.holds Try.pinned (OpenSpec.ofChange fnExactZeroFamilySpec)

/-- ITS FALSE NEIGHBOUR: 'it returns false'. Refute it at one input. -/
def fnExactZeroFamilyWrong : ChangeSpec := { name := "fnExactZeroFamily", fn := fun _ => fun
  | [d1, d2, d3] => { results := [.lit (.bool false)], args := [d1, d2, d3] }
  | _ => none }
def FnExactZeroFamilyWrongFalsely : Prop := fnExactZeroFamilyRow.holds Try.pinned (OpenSpec.ofChange fnExactZeroFamilyWrong)

/-- 'laws.FnExactDualComplex': WHATEVER THE INPUT: true; the input reads as it did. -/
def fnExactDualComplexSpec : ChangeSpec := { name := "fnExactDualComplex", fn := fun _ => fun
  | [d] => { results := [.lit (.bool true)], args := [d] }
  | _ => none }
def fnExactDualComplexRow : OpenClaim := { program := "ytkkjhomhndpphaa", sum := "71642190ea0204fc5bb6211f62b059cbe8d510a8c5810df6d96a9532a0548d9f", func := "loop.example/g01273/laws.FnExactDualComplex", spec := "fnExactDualComplex", unfollowed := true, recurses := true, apart := false }
def FnExactDualComplexSaid : Prop := fnExactDualComplexRow.holds Try.pinned (OpenSpec.ofChange fnExactDualComplexSpec)

/-- ITS FALSE NEIGHBOUR: 'it returns false'. Refute it at one input. -/
def fnExactDualComplexWrong : ChangeSpec := { name := "fnExactDualComplex", fn := fun _ => fun
  | [d] => { results := [.lit (.bool false)], args := [d] }
  | _ => none }
def FnExactDualComplexWrongFalsely : Prop := fnExactDualComplexRow.holds Try.pinned (OpenSpec.ofChange fnExactDualComplexWrong)

/-- 'laws.FnExactPairVectors': WHATEVER THE INPUT: true; the input reads as it did. -/
def fnExactPairVectorsSpec : ChangeSpec := { name := "fnExactPairVectors", fn := fun _ => fun
  | [d1, d2, d3, d4, d5, d6] => { results := [.lit (.bool true)], args := [d1, d2, d3, d4, d5, d6] }
  | _ => none }
def fnExactPairVectorsRow : OpenClaim := { program := "ytkkjhomhndpphaa", sum := "71642190ea0204fc5bb6211f62b059cbe8d510a8c5810df6d96a9532a0548d9f", func := "loop.example/g01273/laws.FnExactPairVectors", spec := "fnExactPairVectors", unfollowed := true, recurses := true, apart := false }
def FnExactPairVectorsSaid : Prop := fnExactPairVectorsRow.holds Try.pinned (OpenSpec.ofChange fnExactPairVectorsSpec)

/-- ITS FALSE NEIGHBOUR: 'it returns false'. Refute it at one input. -/
def fnExactPairVectorsWrong : ChangeSpec := { name := "fnExactPairVectors", fn := fun _ => fun
  | [d1, d2, d3, d4, d5, d6] => { results := [.lit (.bool false)], args := [d1, d2, d3, d4, d5, d6] }
  | _ => none }
def FnExactPairVectorsWrongFalsely : Prop := fnExactPairVectorsRow.holds Try.pinned (OpenSpec.ofChange fnExactPairVectorsWrong)

/-- 'laws.FnDgas': WHATEVER THE INPUT: true; the input reads as it did. -/
def fnDgasSpec : ChangeSpec := { name := "fnDgas", fn := fun _ => fun
  | [d] => { results := [.lit (.bool true)], args := [d] }
  | _ => none }
def fnDgasRow : OpenClaim := { program := "ytkkjhomhndpphaa", sum := "71642190ea0204fc5bb6211f62b059cbe8d510a8c5810df6d96a9532a0548d9f", func := "loop.example/g01273/laws.FnDgas", spec := "fnDgas", unfollowed := true, recurses := true, apart := false }
def FnDgasSaid : Prop := fnDgasRow.holds Try.pinned (OpenSpec.ofChange fnDgasSpec)

/-- ITS FALSE NEIGHBOUR: 'it returns false'. Refute it at one input. -/
def fnDgasWrong : ChangeSpec := { name := "fnDgas", fn := fun _ => fun
  | [d] => { results := [.lit (.bool false)], args := [d] }
  | _ => none }
def FnDgasWrongFalsely : Prop := fnDgasRow.holds Try.pinned (OpenSpec.ofChange fnDgasWrong)

/- THE SECOND FORM. 'bulk': how many values and letters a reading holds, each counted each time it is reached (what is shared counts as often as it is met; a slice's spare places count too). A statement '..UptoSaid' is the law's where the arguments, and the package variables that the reading takes, are together of bulk at most 1048576: NARROWER than '..Said'. Prove '..Said' where nothing that the law and all that it calls make is longer than what came in: it says more and counts as full. Else prove '..UptoSaid'. A law counts once. -/
mutual
def uptoBulk {H : Type} : DataW H → Nat
  | .lit (.string bytes) => bytes.length + 1
  | .lit _ => 1
  | .nil => 1
  | .ptr d => uptoBulk d + 1
  | .slice elems spare => uptoBulkAll elems + uptoBulkAll spare + 1
  | .agg parts => uptoBulkAll parts + 1
  | .iface _ d => uptoBulk d + 1
  | .map entries => uptoBulkEntries entries + 1
  | .held _ => 1
def uptoBulkAll {H : Type} : List (DataW H) → Nat
  | [] => 0
  | d :: r => uptoBulk d + uptoBulkAll r
def uptoBulkEntries {H : Type} : List (Lit × DataW H) → Nat
  | [] => 0
  | x :: r => uptoBulkEntry x + uptoBulkEntries r
def uptoBulkEntry {H : Type} : Lit × DataW H → Nat
  | (.string bytes, d) => bytes.length + uptoBulk d + 1
  | (_, d) => uptoBulk d + 1
 end
def uptoSmall : (H : Type) → List (DataW H) → Bool := fun _ ds => decide (uptoBulkAll ds ≤ 1048576)
def OpenSpec.upto (s : _root_.Go.ChangeSpec) : _root_.Go.OpenSpec := { _root_.Go.OpenSpec.ofChange s with cond := some uptoSmall }

/-- 'laws.FnExactIsGradedCommutative', WHERE WHAT IT READS IS OF BULK AT MOST 1048576: true; the input reads as it did. -/
def fnExactIsGradedCommutativeUptoRow : OpenClaim := { program := "ytkkjhomhndpphaa", sum := "71642190ea0204fc5bb6211f62b059cbe8d510a8c5810df6d96a9532a0548d9f", func := "loop.example/g01273/laws.FnExactIsGradedCommutative", spec := "fnExactIsGradedCommutative", apart := false, narrowed := true }
def FnExactIsGradedCommutativeUptoSaid : Prop := fnExactIsGradedCommutativeUptoRow.holds Try.pinned (OpenSpec.upto fnExactIsGradedCommutativeSpec)

/-- 'laws.FnExactPlaceOfPair', WHERE WHAT IT READS IS OF BULK AT MOST 1048576: true; the input reads as it did. -/
def fnExactPlaceOfPairUptoRow : OpenClaim := { program := "ytkkjhomhndpphaa", sum := "71642190ea0204fc5bb6211f62b059cbe8d510a8c5810df6d96a9532a0548d9f", func := "loop.example/g01273/laws.FnExactPlaceOfPair", spec := "fnExactPlaceOfPair", unfollowed := true, recurses := true, apart := false, narrowed := true }
def FnExactPlaceOfPairUptoSaid : Prop := fnExactPlaceOfPairUptoRow.holds Try.pinned (OpenSpec.upto fnExactPlaceOfPairSpec)

/-- 'laws.FnExactZeroMaps', WHERE WHAT IT READS IS OF BULK AT MOST 1048576: true; the input reads as it did. -/
def fnExactZeroMapsUptoRow : OpenClaim := { program := "ytkkjhomhndpphaa", sum := "71642190ea0204fc5bb6211f62b059cbe8d510a8c5810df6d96a9532a0548d9f", func := "loop.example/g01273/laws.FnExactZeroMaps", spec := "fnExactZeroMaps", unfollowed := true, recurses := true, apart := false, narrowed := true }
def FnExactZeroMapsUptoSaid : Prop := fnExactZeroMapsUptoRow.holds Try.pinned (OpenSpec.upto fnExactZeroMapsSpec)

/-- 'laws.FnExactDifferentialOf', WHERE WHAT IT READS IS OF BULK AT MOST 1048576: true; the input reads as it did. -/
def fnExactDifferentialOfUptoRow : OpenClaim := { program := "ytkkjhomhndpphaa", sum := "71642190ea0204fc5bb6211f62b059cbe8d510a8c5810df6d96a9532a0548d9f", func := "loop.example/g01273/laws.FnExactDifferentialOf", spec := "fnExactDifferentialOf", unfollowed := true, recurses := true, apart := false, narrowed := true }
def FnExactDifferentialOfUptoSaid : Prop := fnExactDifferentialOfUptoRow.holds Try.pinned (OpenSpec.upto fnExactDifferentialOfSpec)

/-- 'laws.FnExactIdentityMap', WHERE WHAT IT READS IS OF BULK AT MOST 1048576: true; the input reads as it did. -/
def fnExactIdentityMapUptoRow : OpenClaim := { program := "ytkkjhomhndpphaa", sum := "71642190ea0204fc5bb6211f62b059cbe8d510a8c5810df6d96a9532a0548d9f", func := "loop.example/g01273/laws.FnExactIdentityMap", spec := "fnExactIdentityMap", unfollowed := true, recurses := true, apart := false, narrowed := true }
def FnExactIdentityMapUptoSaid : Prop := fnExactIdentityMapUptoRow.holds Try.pinned (OpenSpec.upto fnExactIdentityMapSpec)

/-- 'laws.FnExactAreHomotopic', WHERE WHAT IT READS IS OF BULK AT MOST 1048576: true; the input reads as it did. -/
def fnExactAreHomotopicUptoRow : OpenClaim := { program := "ytkkjhomhndpphaa", sum := "71642190ea0204fc5bb6211f62b059cbe8d510a8c5810df6d96a9532a0548d9f", func := "loop.example/g01273/laws.FnExactAreHomotopic", spec := "fnExactAreHomotopic", unfollowed := true, recurses := true, apart := false, narrowed := true }
def FnExactAreHomotopicUptoSaid : Prop := fnExactAreHomotopicUptoRow.holds Try.pinned (OpenSpec.upto fnExactAreHomotopicSpec)

/-- 'laws.FnExactTensorDims', WHERE WHAT IT READS IS OF BULK AT MOST 1048576: true; the input reads as it did. -/
def fnExactTensorDimsUptoRow : OpenClaim := { program := "ytkkjhomhndpphaa", sum := "71642190ea0204fc5bb6211f62b059cbe8d510a8c5810df6d96a9532a0548d9f", func := "loop.example/g01273/laws.FnExactTensorDims", spec := "fnExactTensorDims", unfollowed := true, recurses := true, apart := false, narrowed := true }
def FnExactTensorDimsUptoSaid : Prop := fnExactTensorDimsUptoRow.holds Try.pinned (OpenSpec.upto fnExactTensorDimsSpec)

/-- 'laws.FnExactIsFiltered', WHERE WHAT IT READS IS OF BULK AT MOST 1048576: true; the input reads as it did. -/
def fnExactIsFilteredUptoRow : OpenClaim := { program := "ytkkjhomhndpphaa", sum := "71642190ea0204fc5bb6211f62b059cbe8d510a8c5810df6d96a9532a0548d9f", func := "loop.example/g01273/laws.FnExactIsFiltered", spec := "fnExactIsFiltered", unfollowed := true, recurses := true, apart := false, narrowed := true }
def FnExactIsFilteredUptoSaid : Prop := fnExactIsFilteredUptoRow.holds Try.pinned (OpenSpec.upto fnExactIsFilteredSpec)

/-- 'laws.FnExactZeroFamily', WHERE WHAT IT READS IS OF BULK AT MOST 1048576: true; the input reads as it did. -/
def fnExactZeroFamilyUptoRow : OpenClaim := { program := "ytkkjhomhndpphaa", sum := "71642190ea0204fc5bb6211f62b059cbe8d510a8c5810df6d96a9532a0548d9f", func := "loop.example/g01273/laws.FnExactZeroFamily", spec := "fnExactZeroFamily", unfollowed := true, recurses := true, apart := false, narrowed := true }
def FnExactZeroFamilyUptoSaid : Prop := fnExactZeroFamilyUptoRow.holds Try.pinned (OpenSpec.upto fnExactZeroFamilySpec)

/-- 'laws.FnExactDualComplex', WHERE WHAT IT READS IS OF BULK AT MOST 1048576: true; the input reads as it did. -/
def fnExactDualComplexUptoRow : OpenClaim := { program := "ytkkjhomhndpphaa", sum := "71642190ea0204fc5bb6211f62b059cbe8d510a8c5810df6d96a9532a0548d9f", func := "loop.example/g01273/laws.FnExactDualComplex", spec := "fnExactDualComplex", unfollowed := true, recurses := true, apart := false, narrowed := true }
def FnExactDualComplexUptoSaid : Prop := fnExactDualComplexUptoRow.holds Try.pinned (OpenSpec.upto fnExactDualComplexSpec)

/-- 'laws.FnExactPairVectors', WHERE WHAT IT READS IS OF BULK AT MOST 1048576: true; the input reads as it did. -/
def fnExactPairVectorsUptoRow : OpenClaim := { program := "ytkkjhomhndpphaa", sum := "71642190ea0204fc5bb6211f62b059cbe8d510a8c5810df6d96a9532a0548d9f", func := "loop.example/g01273/laws.FnExactPairVectors", spec := "fnExactPairVectors", unfollowed := true, recurses := true, apart := false, narrowed := true }
def FnExactPairVectorsUptoSaid : Prop := fnExactPairVectorsUptoRow.holds Try.pinned (OpenSpec.upto fnExactPairVectorsSpec)

/-- 'laws.FnDgas', WHERE WHAT IT READS IS OF BULK AT MOST 1048576: true; the input reads as it did. -/
def fnDgasUptoRow : OpenClaim := { program := "ytkkjhomhndpphaa", sum := "71642190ea0204fc5bb6211f62b059cbe8d510a8c5810df6d96a9532a0548d9f", func := "loop.example/g01273/laws.FnDgas", spec := "fnDgas", unfollowed := true, recurses := true, apart := false, narrowed := true }
def FnDgasUptoSaid : Prop := fnDgasUptoRow.holds Try.pinned (OpenSpec.upto fnDgasSpec)

end Rows
end Go.Proofs.Ytkkjhomhndpphaa
