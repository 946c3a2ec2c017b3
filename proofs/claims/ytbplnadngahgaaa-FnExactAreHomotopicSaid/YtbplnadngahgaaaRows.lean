/-
  No cell of these rows narrows 'for every input' (looked for: loops, veiled, ifaces, maps, wideKeys, modest, calm, conditions, laid).
  DERIVED. THE GIVEN ROWS OF THIS SEAT. 12 by the template 'for every input the law returns true; each argument reads behind the call as it read before'; 0 by the template 'total and deterministic' (their statements: YtbplnadngahgaaaTotals.lean).
  GIVEN WITH THE SEED: the statements are not yours to turn. If you find one false, say at which input.
  Laid BY PROGRAM, IN A SANDBOX (cutbox-rows.mjs): the forced cells as the released guide's own fill.sh prints them over the translation 60cbede3cc62a64a… (all of the seat's roots in one cut). By AI agents, Wed Nov 11 2026. No macro, syntax, notation, axiom, sorry.
-/
import Derived.Test.YtbplnadngahgaaaChecked
import GoSem.Claim
import GoSem.ClaimJoined
import GoSem.ClaimMapViews
import Derived.JoinedTies
import Derived.KernelRfl
namespace Go.Proofs.Ytbplnadngahgaaa
/- THE CELL 'sum', in the pinned program and in every row, IS THE sha256 OF THE DUMP (.gsa) THAT YtbplnadngahgaaaProg.lean LOADS. Nothing in Lean hashes anything: it is a label: what it is worth is what the hold of that sum in a sandbox is worth. -/
noncomputable def Try.pinned : Pinned := { name := "ytbplnadngahgaaa", sum := "60cbede3cc62a64ab54ea8b442b8dadc3567d016b2d41c2ccffdbacdea421f96", checked := Try.checked }
namespace Rows
def none {H : Type} : Left H := { results := [], args := [] }

/-- 'laws.FnExactAreHomotopic': WHATEVER THE INPUT: true; the input reads as it did. -/
def fnExactAreHomotopicSpec : ChangeSpec := { name := "fnExactAreHomotopic", fn := fun _ => fun
  | [d1, d2, d3, d4] => { results := [.lit (.bool true)], args := [d1, d2, d3, d4] }
  | _ => none }
def fnExactAreHomotopicRow : OpenClaim := { program := "ytbplnadngahgaaa", sum := "60cbede3cc62a64ab54ea8b442b8dadc3567d016b2d41c2ccffdbacdea421f96", func := "loop.example/g01273/laws.FnExactAreHomotopic", spec := "fnExactAreHomotopic", unfollowed := true, recurses := true, apart := false }
def FnExactAreHomotopicSaid : Prop := fnExactAreHomotopicRow.holds Try.pinned (OpenSpec.ofChange fnExactAreHomotopicSpec)

/-- ITS FALSE NEIGHBOUR: 'it returns false'. Refute it at one input. -/
def fnExactAreHomotopicWrong : ChangeSpec := { name := "fnExactAreHomotopic", fn := fun _ => fun
  | [d1, d2, d3, d4] => { results := [.lit (.bool false)], args := [d1, d2, d3, d4] }
  | _ => none }
def FnExactAreHomotopicWrongFalsely : Prop := fnExactAreHomotopicRow.holds Try.pinned (OpenSpec.ofChange fnExactAreHomotopicWrong)

/-- 'laws.FnExactBoundariesOf': WHATEVER THE INPUT: true; the input reads as it did. -/
def fnExactBoundariesOfSpec : ChangeSpec := { name := "fnExactBoundariesOf", fn := fun _ => fun
  | [d1, d2] => { results := [.lit (.bool true)], args := [d1, d2] }
  | _ => none }
def fnExactBoundariesOfRow : OpenClaim := { program := "ytbplnadngahgaaa", sum := "60cbede3cc62a64ab54ea8b442b8dadc3567d016b2d41c2ccffdbacdea421f96", func := "loop.example/g01273/laws.FnExactBoundariesOf", spec := "fnExactBoundariesOf", unfollowed := true, recurses := true, apart := false }
def FnExactBoundariesOfSaid : Prop := fnExactBoundariesOfRow.holds Try.pinned (OpenSpec.ofChange fnExactBoundariesOfSpec)

/-- ITS FALSE NEIGHBOUR: 'it returns false'. Refute it at one input. -/
def fnExactBoundariesOfWrong : ChangeSpec := { name := "fnExactBoundariesOf", fn := fun _ => fun
  | [d1, d2] => { results := [.lit (.bool false)], args := [d1, d2] }
  | _ => none }
def FnExactBoundariesOfWrongFalsely : Prop := fnExactBoundariesOfRow.holds Try.pinned (OpenSpec.ofChange fnExactBoundariesOfWrong)

/-- 'laws.FnExactIsExactAt': WHATEVER THE INPUT: true; the input reads as it did. -/
def fnExactIsExactAtSpec : ChangeSpec := { name := "fnExactIsExactAt", fn := fun _ => fun
  | [d1, d2] => { results := [.lit (.bool true)], args := [d1, d2] }
  | _ => none }
def fnExactIsExactAtRow : OpenClaim := { program := "ytbplnadngahgaaa", sum := "60cbede3cc62a64ab54ea8b442b8dadc3567d016b2d41c2ccffdbacdea421f96", func := "loop.example/g01273/laws.FnExactIsExactAt", spec := "fnExactIsExactAt", unfollowed := true, recurses := true, apart := false }
def FnExactIsExactAtSaid : Prop := fnExactIsExactAtRow.holds Try.pinned (OpenSpec.ofChange fnExactIsExactAtSpec)

/-- ITS FALSE NEIGHBOUR: 'it returns false'. Refute it at one input. -/
def fnExactIsExactAtWrong : ChangeSpec := { name := "fnExactIsExactAt", fn := fun _ => fun
  | [d1, d2] => { results := [.lit (.bool false)], args := [d1, d2] }
  | _ => none }
def FnExactIsExactAtWrongFalsely : Prop := fnExactIsExactAtRow.holds Try.pinned (OpenSpec.ofChange fnExactIsExactAtWrong)

/-- 'laws.FnExactHomologyNumbers': WHATEVER THE INPUT: true; the input reads as it did. -/
def fnExactHomologyNumbersSpec : ChangeSpec := { name := "fnExactHomologyNumbers", fn := fun _ => fun
  | [d] => { results := [.lit (.bool true)], args := [d] }
  | _ => none }
def fnExactHomologyNumbersRow : OpenClaim := { program := "ytbplnadngahgaaa", sum := "60cbede3cc62a64ab54ea8b442b8dadc3567d016b2d41c2ccffdbacdea421f96", func := "loop.example/g01273/laws.FnExactHomologyNumbers", spec := "fnExactHomologyNumbers", unfollowed := true, recurses := true, apart := false }
def FnExactHomologyNumbersSaid : Prop := fnExactHomologyNumbersRow.holds Try.pinned (OpenSpec.ofChange fnExactHomologyNumbersSpec)

/-- ITS FALSE NEIGHBOUR: 'it returns false'. Refute it at one input. -/
def fnExactHomologyNumbersWrong : ChangeSpec := { name := "fnExactHomologyNumbers", fn := fun _ => fun
  | [d] => { results := [.lit (.bool false)], args := [d] }
  | _ => none }
def FnExactHomologyNumbersWrongFalsely : Prop := fnExactHomologyNumbersRow.holds Try.pinned (OpenSpec.ofChange fnExactHomologyNumbersWrong)

/-- 'laws.FnExactKuennethNumber': WHATEVER THE INPUT: true; the input reads as it did. -/
def fnExactKuennethNumberSpec : ChangeSpec := { name := "fnExactKuennethNumber", fn := fun _ => fun
  | [d1, d2, d3] => { results := [.lit (.bool true)], args := [d1, d2, d3] }
  | _ => none }
def fnExactKuennethNumberRow : OpenClaim := { program := "ytbplnadngahgaaa", sum := "60cbede3cc62a64ab54ea8b442b8dadc3567d016b2d41c2ccffdbacdea421f96", func := "loop.example/g01273/laws.FnExactKuennethNumber", spec := "fnExactKuennethNumber", unfollowed := true, recurses := true, apart := false }
def FnExactKuennethNumberSaid : Prop := fnExactKuennethNumberRow.holds Try.pinned (OpenSpec.ofChange fnExactKuennethNumberSpec)

/-- ITS FALSE NEIGHBOUR: 'it returns false'. Refute it at one input. -/
def fnExactKuennethNumberWrong : ChangeSpec := { name := "fnExactKuennethNumber", fn := fun _ => fun
  | [d1, d2, d3] => { results := [.lit (.bool false)], args := [d1, d2, d3] }
  | _ => none }
def FnExactKuennethNumberWrongFalsely : Prop := fnExactKuennethNumberRow.holds Try.pinned (OpenSpec.ofChange fnExactKuennethNumberWrong)

/-- 'laws.FnExactCyclesOf': WHATEVER THE INPUT: true; the input reads as it did. -/
def fnExactCyclesOfSpec : ChangeSpec := { name := "fnExactCyclesOf", fn := fun _ => fun
  | [d1, d2] => { results := [.lit (.bool true)], args := [d1, d2] }
  | _ => none }
def fnExactCyclesOfRow : OpenClaim := { program := "ytbplnadngahgaaa", sum := "60cbede3cc62a64ab54ea8b442b8dadc3567d016b2d41c2ccffdbacdea421f96", func := "loop.example/g01273/laws.FnExactCyclesOf", spec := "fnExactCyclesOf", unfollowed := true, recurses := true, apart := false }
def FnExactCyclesOfSaid : Prop := fnExactCyclesOfRow.holds Try.pinned (OpenSpec.ofChange fnExactCyclesOfSpec)

/-- ITS FALSE NEIGHBOUR: 'it returns false'. Refute it at one input. -/
def fnExactCyclesOfWrong : ChangeSpec := { name := "fnExactCyclesOf", fn := fun _ => fun
  | [d1, d2] => { results := [.lit (.bool false)], args := [d1, d2] }
  | _ => none }
def FnExactCyclesOfWrongFalsely : Prop := fnExactCyclesOfRow.holds Try.pinned (OpenSpec.ofChange fnExactCyclesOfWrong)

/-- 'laws.FnExactHomologyList': WHATEVER THE INPUT: true; the input reads as it did. -/
def fnExactHomologyListSpec : ChangeSpec := { name := "fnExactHomologyList", fn := fun _ => fun
  | [d1, d2] => { results := [.lit (.bool true)], args := [d1, d2] }
  | _ => none }
def fnExactHomologyListRow : OpenClaim := { program := "ytbplnadngahgaaa", sum := "60cbede3cc62a64ab54ea8b442b8dadc3567d016b2d41c2ccffdbacdea421f96", func := "loop.example/g01273/laws.FnExactHomologyList", spec := "fnExactHomologyList", unfollowed := true, recurses := true, apart := false }
def FnExactHomologyListSaid : Prop := fnExactHomologyListRow.holds Try.pinned (OpenSpec.ofChange fnExactHomologyListSpec)

/-- ITS FALSE NEIGHBOUR: 'it returns false'. Refute it at one input. -/
def fnExactHomologyListWrong : ChangeSpec := { name := "fnExactHomologyList", fn := fun _ => fun
  | [d1, d2] => { results := [.lit (.bool false)], args := [d1, d2] }
  | _ => none }
def FnExactHomologyListWrongFalsely : Prop := fnExactHomologyListRow.holds Try.pinned (OpenSpec.ofChange fnExactHomologyListWrong)

/-- 'laws.FnExactHolesOf': WHATEVER THE INPUT: true; the input reads as it did. -/
def fnExactHolesOfSpec : ChangeSpec := { name := "fnExactHolesOf", fn := fun _ => fun
  | [d1, d2] => { results := [.lit (.bool true)], args := [d1, d2] }
  | _ => none }
def fnExactHolesOfRow : OpenClaim := { program := "ytbplnadngahgaaa", sum := "60cbede3cc62a64ab54ea8b442b8dadc3567d016b2d41c2ccffdbacdea421f96", func := "loop.example/g01273/laws.FnExactHolesOf", spec := "fnExactHolesOf", unfollowed := true, recurses := true, apart := false }
def FnExactHolesOfSaid : Prop := fnExactHolesOfRow.holds Try.pinned (OpenSpec.ofChange fnExactHolesOfSpec)

/-- ITS FALSE NEIGHBOUR: 'it returns false'. Refute it at one input. -/
def fnExactHolesOfWrong : ChangeSpec := { name := "fnExactHolesOf", fn := fun _ => fun
  | [d1, d2] => { results := [.lit (.bool false)], args := [d1, d2] }
  | _ => none }
def FnExactHolesOfWrongFalsely : Prop := fnExactHolesOfRow.holds Try.pinned (OpenSpec.ofChange fnExactHolesOfWrong)

/-- 'laws.FnExactHomologyComplex': WHATEVER THE INPUT: true; the input reads as it did. -/
def fnExactHomologyComplexSpec : ChangeSpec := { name := "fnExactHomologyComplex", fn := fun _ => fun
  | [d] => { results := [.lit (.bool true)], args := [d] }
  | _ => none }
def fnExactHomologyComplexRow : OpenClaim := { program := "ytbplnadngahgaaa", sum := "60cbede3cc62a64ab54ea8b442b8dadc3567d016b2d41c2ccffdbacdea421f96", func := "loop.example/g01273/laws.FnExactHomologyComplex", spec := "fnExactHomologyComplex", unfollowed := true, recurses := true, apart := false }
def FnExactHomologyComplexSaid : Prop := fnExactHomologyComplexRow.holds Try.pinned (OpenSpec.ofChange fnExactHomologyComplexSpec)

/-- ITS FALSE NEIGHBOUR: 'it returns false'. Refute it at one input. -/
def fnExactHomologyComplexWrong : ChangeSpec := { name := "fnExactHomologyComplex", fn := fun _ => fun
  | [d] => { results := [.lit (.bool false)], args := [d] }
  | _ => none }
def FnExactHomologyComplexWrongFalsely : Prop := fnExactHomologyComplexRow.holds Try.pinned (OpenSpec.ofChange fnExactHomologyComplexWrong)

/-- 'laws.FnExactSplitVector': WHATEVER THE INPUT: true; the input reads as it did. -/
def fnExactSplitVectorSpec : ChangeSpec := { name := "fnExactSplitVector", fn := fun _ => fun
  | [d1, d2, d3] => { results := [.lit (.bool true)], args := [d1, d2, d3] }
  | _ => none }
def fnExactSplitVectorRow : OpenClaim := { program := "ytbplnadngahgaaa", sum := "60cbede3cc62a64ab54ea8b442b8dadc3567d016b2d41c2ccffdbacdea421f96", func := "loop.example/g01273/laws.FnExactSplitVector", spec := "fnExactSplitVector", unfollowed := true, recurses := true, apart := false }
def FnExactSplitVectorSaid : Prop := fnExactSplitVectorRow.holds Try.pinned (OpenSpec.ofChange fnExactSplitVectorSpec)

/-- ITS FALSE NEIGHBOUR: 'it returns false'. Refute it at one input. -/
def fnExactSplitVectorWrong : ChangeSpec := { name := "fnExactSplitVector", fn := fun _ => fun
  | [d1, d2, d3] => { results := [.lit (.bool false)], args := [d1, d2, d3] }
  | _ => none }
def FnExactSplitVectorWrongFalsely : Prop := fnExactSplitVectorRow.holds Try.pinned (OpenSpec.ofChange fnExactSplitVectorWrong)

/-- 'laws.FnExactInducedRank': WHATEVER THE INPUT: true; the input reads as it did. -/
def fnExactInducedRankSpec : ChangeSpec := { name := "fnExactInducedRank", fn := fun _ => fun
  | [d1, d2, d3, d4] => { results := [.lit (.bool true)], args := [d1, d2, d3, d4] }
  | _ => none }
def fnExactInducedRankRow : OpenClaim := { program := "ytbplnadngahgaaa", sum := "60cbede3cc62a64ab54ea8b442b8dadc3567d016b2d41c2ccffdbacdea421f96", func := "loop.example/g01273/laws.FnExactInducedRank", spec := "fnExactInducedRank", unfollowed := true, recurses := true, apart := false }
def FnExactInducedRankSaid : Prop := fnExactInducedRankRow.holds Try.pinned (OpenSpec.ofChange fnExactInducedRankSpec)

/-- ITS FALSE NEIGHBOUR: 'it returns false'. Refute it at one input. -/
def fnExactInducedRankWrong : ChangeSpec := { name := "fnExactInducedRank", fn := fun _ => fun
  | [d1, d2, d3, d4] => { results := [.lit (.bool false)], args := [d1, d2, d3, d4] }
  | _ => none }
def FnExactInducedRankWrongFalsely : Prop := fnExactInducedRankRow.holds Try.pinned (OpenSpec.ofChange fnExactInducedRankWrong)

/-- 'laws.FnExactIsQuasi': WHATEVER THE INPUT: true; the input reads as it did. -/
def fnExactIsQuasiSpec : ChangeSpec := { name := "fnExactIsQuasi", fn := fun _ => fun
  | [d1, d2, d3] => { results := [.lit (.bool true)], args := [d1, d2, d3] }
  | _ => none }
def fnExactIsQuasiRow : OpenClaim := { program := "ytbplnadngahgaaa", sum := "60cbede3cc62a64ab54ea8b442b8dadc3567d016b2d41c2ccffdbacdea421f96", func := "loop.example/g01273/laws.FnExactIsQuasi", spec := "fnExactIsQuasi", unfollowed := true, recurses := true, apart := false }
def FnExactIsQuasiSaid : Prop := fnExactIsQuasiRow.holds Try.pinned (OpenSpec.ofChange fnExactIsQuasiSpec)

/-- ITS FALSE NEIGHBOUR: 'it returns false'. Refute it at one input. -/
def fnExactIsQuasiWrong : ChangeSpec := { name := "fnExactIsQuasi", fn := fun _ => fun
  | [d1, d2, d3] => { results := [.lit (.bool false)], args := [d1, d2, d3] }
  | _ => none }
def FnExactIsQuasiWrongFalsely : Prop := fnExactIsQuasiRow.holds Try.pinned (OpenSpec.ofChange fnExactIsQuasiWrong)

/- THE SECOND FORM. 'bulk': how many values and letters a reading holds, each counted each time it is reached (what is shared counts as often as it is met; a slice's spare places count too). A statement '..UptoSaid' is the law's where the arguments, and the package variables that the reading takes, are together of bulk at most 1048576: NARROWER than '..Said'. Prove '..Said' where nothing that the law and all that it calls make is longer than what came in: it says more and counts as full. Else prove '..UptoSaid'. A law counts once. -/
mutual
def uptoBulk {H : Type} : DataW H → Nat
  | .lit (.string bytes) => bytes.length + 1
  | .lit _ => 1
  | .nil => 1
  | .ptr d => uptoBulk d + 1
  | .slice elems spare => uptoBulkAll elems + uptoBulkAll spare + 1
  | .agg parts => uptoBulkAll parts + 1
  | .iface _ d => uptoBulk d + 1
  | .map entries => uptoBulkEntries entries + 1
  | .held _ => 1
def uptoBulkAll {H : Type} : List (DataW H) → Nat
  | [] => 0
  | d :: r => uptoBulk d + uptoBulkAll r
def uptoBulkEntries {H : Type} : List (Lit × DataW H) → Nat
  | [] => 0
  | x :: r => uptoBulkEntry x + uptoBulkEntries r
def uptoBulkEntry {H : Type} : Lit × DataW H → Nat
  | (.string bytes, d) => bytes.length + uptoBulk d + 1
  | (_, d) => uptoBulk d + 1
 end
def uptoSmall : (H : Type) → List (DataW H) → Bool := fun _ ds => decide (uptoBulkAll ds ≤ 1048576)
def OpenSpec.upto (s : _root_.Go.ChangeSpec) : _root_.Go.OpenSpec := { _root_.Go.OpenSpec.ofChange s with cond := some uptoSmall }

/-- 'laws.FnExactAreHomotopic', WHERE WHAT IT READS IS OF BULK AT MOST 1048576: true; the input reads as it did. -/
def fnExactAreHomotopicUptoRow : OpenClaim := { program := "ytbplnadngahgaaa", sum := "60cbede3cc62a64ab54ea8b442b8dadc3567d016b2d41c2ccffdbacdea421f96", func := "loop.example/g01273/laws.FnExactAreHomotopic", spec := "fnExactAreHomotopic", unfollowed := true, recurses := true, apart := false, narrowed := true }
def FnExactAreHomotopicUptoSaid : Prop := fnExactAreHomotopicUptoRow.holds Try.pinned (OpenSpec.upto fnExactAreHomotopicSpec)

/-- 'laws.FnExactBoundariesOf', WHERE WHAT IT READS IS OF BULK AT MOST 1048576: true; the input reads as it did. -/
def fnExactBoundariesOfUptoRow : OpenClaim := { program := "ytbplnadngahgaaa", sum := "60cbede3cc62a64ab54ea8b442b8dadc3567d016b2d41c2ccffdbacdea421f96", func := "loop.example/g01273/laws.FnExactBoundariesOf", spec := "fnExactBoundariesOf", unfollowed := true, recurses := true, apart := false, narrowed := true }
def FnExactBoundariesOfUptoSaid : Prop := fnExactBoundariesOfUptoRow.holds Try.pinned (OpenSpec.upto fnExactBoundariesOfSpec)

/-- 'laws.FnExactIsExactAt', WHERE WHAT IT READS IS OF BULK AT MOST 1048576: true; the input reads as it did. -/
def fnExactIsExactAtUptoRow : OpenClaim := { program := "ytbplnadngahgaaa", sum := "60cbede3cc62a64ab54ea8b442b8dadc3567d016b2d41c2ccffdbacdea421f96", func := "loop.example/g01273/laws.FnExactIsExactAt", spec := "fnExactIsExactAt", unfollowed := true, recurses := true, apart := false, narrowed := true }
def FnExactIsExactAtUptoSaid : Prop := fnExactIsExactAtUptoRow.holds Try.pinned (OpenSpec.upto fnExactIsExactAtSpec)

/-- 'laws.FnExactHomologyNumbers', WHERE WHAT IT READS IS OF BULK AT MOST 1048576: true; the input reads as it did. -/
def fnExactHomologyNumbersUptoRow : OpenClaim := { program := "ytbplnadngahgaaa", sum := "60cbede3cc62a64ab54ea8b442b8dadc3567d016b2d41c2ccffdbacdea421f96", func := "loop.example/g01273/laws.FnExactHomologyNumbers", spec := "fnExactHomologyNumbers", unfollowed := true, recurses := true, apart := false, narrowed := true }
def FnExactHomologyNumbersUptoSaid : Prop := fnExactHomologyNumbersUptoRow.holds Try.pinned (OpenSpec.upto fnExactHomologyNumbersSpec)

/-- 'laws.FnExactKuennethNumber', WHERE WHAT IT READS IS OF BULK AT MOST 1048576: true; the input reads as it did. -/
def fnExactKuennethNumberUptoRow : OpenClaim := { program := "ytbplnadngahgaaa", sum := "60cbede3cc62a64ab54ea8b442b8dadc3567d016b2d41c2ccffdbacdea421f96", func := "loop.example/g01273/laws.FnExactKuennethNumber", spec := "fnExactKuennethNumber", unfollowed := true, recurses := true, apart := false, narrowed := true }
def FnExactKuennethNumberUptoSaid : Prop := fnExactKuennethNumberUptoRow.holds Try.pinned (OpenSpec.upto fnExactKuennethNumberSpec)

/-- 'laws.FnExactCyclesOf', WHERE WHAT IT READS IS OF BULK AT MOST 1048576: true; the input reads as it did. -/
def fnExactCyclesOfUptoRow : OpenClaim := { program := "ytbplnadngahgaaa", sum := "60cbede3cc62a64ab54ea8b442b8dadc3567d016b2d41c2ccffdbacdea421f96", func := "loop.example/g01273/laws.FnExactCyclesOf", spec := "fnExactCyclesOf", unfollowed := true, recurses := true, apart := false, narrowed := true }
def FnExactCyclesOfUptoSaid : Prop := fnExactCyclesOfUptoRow.holds Try.pinned (OpenSpec.upto fnExactCyclesOfSpec)

/-- 'laws.FnExactHomologyList', WHERE WHAT IT READS IS OF BULK AT MOST 1048576: true; the input reads as it did. -/
def fnExactHomologyListUptoRow : OpenClaim := { program := "ytbplnadngahgaaa", sum := "60cbede3cc62a64ab54ea8b442b8dadc3567d016b2d41c2ccffdbacdea421f96", func := "loop.example/g01273/laws.FnExactHomologyList", spec := "fnExactHomologyList", unfollowed := true, recurses := true, apart := false, narrowed := true }
def FnExactHomologyListUptoSaid : Prop := fnExactHomologyListUptoRow.holds Try.pinned (OpenSpec.upto fnExactHomologyListSpec)

/-- 'laws.FnExactHolesOf', WHERE WHAT IT READS IS OF BULK AT MOST 1048576: true; the input reads as it did. -/
def fnExactHolesOfUptoRow : OpenClaim := { program := "ytbplnadngahgaaa", sum := "60cbede3cc62a64ab54ea8b442b8dadc3567d016b2d41c2ccffdbacdea421f96", func := "loop.example/g01273/laws.FnExactHolesOf", spec := "fnExactHolesOf", unfollowed := true, recurses := true, apart := false, narrowed := true }
def FnExactHolesOfUptoSaid : Prop := fnExactHolesOfUptoRow.holds Try.pinned (OpenSpec.upto fnExactHolesOfSpec)

/-- 'laws.FnExactHomologyComplex', WHERE WHAT IT READS IS OF BULK AT MOST 1048576: true; the input reads as it did. -/
def fnExactHomologyComplexUptoRow : OpenClaim := { program := "ytbplnadngahgaaa", sum := "60cbede3cc62a64ab54ea8b442b8dadc3567d016b2d41c2ccffdbacdea421f96", func := "loop.example/g01273/laws.FnExactHomologyComplex", spec := "fnExactHomologyComplex", unfollowed := true, recurses := true, apart := false, narrowed := true }
def FnExactHomologyComplexUptoSaid : Prop := fnExactHomologyComplexUptoRow.holds Try.pinned (OpenSpec.upto fnExactHomologyComplexSpec)

/-- 'laws.FnExactSplitVector', WHERE WHAT IT READS IS OF BULK AT MOST 1048576: true; the input reads as it did. -/
def fnExactSplitVectorUptoRow : OpenClaim := { program := "ytbplnadngahgaaa", sum := "60cbede3cc62a64ab54ea8b442b8dadc3567d016b2d41c2ccffdbacdea421f96", func := "loop.example/g01273/laws.FnExactSplitVector", spec := "fnExactSplitVector", unfollowed := true, recurses := true, apart := false, narrowed := true }
def FnExactSplitVectorUptoSaid : Prop := fnExactSplitVectorUptoRow.holds Try.pinned (OpenSpec.upto fnExactSplitVectorSpec)

/-- 'laws.FnExactInducedRank', WHERE WHAT IT READS IS OF BULK AT MOST 1048576: true; the input reads as it did. -/
def fnExactInducedRankUptoRow : OpenClaim := { program := "ytbplnadngahgaaa", sum := "60cbede3cc62a64ab54ea8b442b8dadc3567d016b2d41c2ccffdbacdea421f96", func := "loop.example/g01273/laws.FnExactInducedRank", spec := "fnExactInducedRank", unfollowed := true, recurses := true, apart := false, narrowed := true }
def FnExactInducedRankUptoSaid : Prop := fnExactInducedRankUptoRow.holds Try.pinned (OpenSpec.upto fnExactInducedRankSpec)

/-- 'laws.FnExactIsQuasi', WHERE WHAT IT READS IS OF BULK AT MOST 1048576: true; the input reads as it did. -/
def fnExactIsQuasiUptoRow : OpenClaim := { program := "ytbplnadngahgaaa", sum := "60cbede3cc62a64ab54ea8b442b8dadc3567d016b2d41c2ccffdbacdea421f96", func := "loop.example/g01273/laws.FnExactIsQuasi", spec := "fnExactIsQuasi", unfollowed := true, recurses := true, apart := false, narrowed := true }
def FnExactIsQuasiUptoSaid : Prop := fnExactIsQuasiUptoRow.holds Try.pinned (OpenSpec.upto fnExactIsQuasiSpec)

end Rows
end Go.Proofs.Ytbplnadngahgaaa
