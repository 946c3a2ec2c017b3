/-
  No cell of these rows narrows 'for every input' (looked for: loops, veiled, ifaces, maps, wideKeys, modest, calm, conditions, laid).
  DERIVED. THE GIVEN ROWS OF THIS SEAT. 12 by the template 'for every input the law returns true; each argument reads behind the call as it read before'; 0 by the template 'total and deterministic' (their statements: YtffggocjkhcgeaaTotals.lean).
  GIVEN WITH THE SEED: the statements are not yours to turn. If you find one false, say at which input.
  Laid BY PROGRAM, IN A SANDBOX (cutbox-rows.mjs): the forced cells as the released guide's own fill.sh prints them over the translation 1d616ea2f03593c9… (all of the seat's roots in one cut). By AI agents, Wed Nov 11 2026. No macro, syntax, notation, axiom, sorry.
-/
import Derived.Test.YtffggocjkhcgeaaChecked
import GoSem.Claim
import GoSem.ClaimJoined
import GoSem.ClaimMapViews
import Derived.JoinedTies
import Derived.KernelRfl
namespace Go.Proofs.Ytffggocjkhcgeaa
/- THE CELL 'sum', in the pinned program and in every row, IS THE sha256 OF THE DUMP (.gsa) THAT YtffggocjkhcgeaaProg.lean LOADS. Nothing in Lean hashes anything: it is a label: what it is worth is what the hold of that sum in a sandbox is worth. -/
noncomputable def Try.pinned : Pinned := { name := "ytffggocjkhcgeaa", sum := "1d616ea2f03593c9aeb815632d2bf562d1c741ff0af4d9b4a2f7842c14721444", checked := Try.checked }
namespace Rows
def none {H : Type} : Left H := { results := [], args := [] }

/-- 'laws.FnExactApplyFamily': WHATEVER THE INPUT: true; the input reads as it did. -/
def fnExactApplyFamilySpec : ChangeSpec := { name := "fnExactApplyFamily", fn := fun _ => fun
  | [d1, d2, d3, d4, d5] => { results := [.lit (.bool true)], args := [d1, d2, d3, d4, d5] }
  | _ => none }
def fnExactApplyFamilyRow : OpenClaim := { program := "ytffggocjkhcgeaa", sum := "1d616ea2f03593c9aeb815632d2bf562d1c741ff0af4d9b4a2f7842c14721444", func := "loop.example/g01273/laws.FnExactApplyFamily", spec := "fnExactApplyFamily", unfollowed := true, recurses := true, apart := false }
def FnExactApplyFamilySaid : Prop := fnExactApplyFamilyRow.holds Try.pinned (OpenSpec.ofChange fnExactApplyFamilySpec)

/-- ITS FALSE NEIGHBOUR: 'it returns false'. Refute it at one input. -/
def fnExactApplyFamilyWrong : ChangeSpec := { name := "fnExactApplyFamily", fn := fun _ => fun
  | [d1, d2, d3, d4, d5] => { results := [.lit (.bool false)], args := [d1, d2, d3, d4, d5] }
  | _ => none }
def FnExactApplyFamilyWrongFalsely : Prop := fnExactApplyFamilyRow.holds Try.pinned (OpenSpec.ofChange fnExactApplyFamilyWrong)

/-- 'laws.FnExactAddComplexes': WHATEVER THE INPUT: true; the input reads as it did. -/
def fnExactAddComplexesSpec : ChangeSpec := { name := "fnExactAddComplexes", fn := fun _ => fun
  | [d1, d2] => { results := [.lit (.bool true)], args := [d1, d2] }
  | _ => none }
def fnExactAddComplexesRow : OpenClaim := { program := "ytffggocjkhcgeaa", sum := "1d616ea2f03593c9aeb815632d2bf562d1c741ff0af4d9b4a2f7842c14721444", func := "loop.example/g01273/laws.FnExactAddComplexes", spec := "fnExactAddComplexes", unfollowed := true, recurses := true, apart := false }
def FnExactAddComplexesSaid : Prop := fnExactAddComplexesRow.holds Try.pinned (OpenSpec.ofChange fnExactAddComplexesSpec)

/-- ITS FALSE NEIGHBOUR: 'it returns false'. Refute it at one input. -/
def fnExactAddComplexesWrong : ChangeSpec := { name := "fnExactAddComplexes", fn := fun _ => fun
  | [d1, d2] => { results := [.lit (.bool false)], args := [d1, d2] }
  | _ => none }
def FnExactAddComplexesWrongFalsely : Prop := fnExactAddComplexesRow.holds Try.pinned (OpenSpec.ofChange fnExactAddComplexesWrong)

/-- 'laws.FnExactComposeFamilies': WHATEVER THE INPUT: true; the input reads as it did. -/
def fnExactComposeFamiliesSpec : ChangeSpec := { name := "fnExactComposeFamilies", fn := fun _ => fun
  | [d1, d2, d3, d4, d5] => { results := [.lit (.bool true)], args := [d1, d2, d3, d4, d5] }
  | _ => none }
def fnExactComposeFamiliesRow : OpenClaim := { program := "ytffggocjkhcgeaa", sum := "1d616ea2f03593c9aeb815632d2bf562d1c741ff0af4d9b4a2f7842c14721444", func := "loop.example/g01273/laws.FnExactComposeFamilies", spec := "fnExactComposeFamilies", unfollowed := true, recurses := true, apart := false }
def FnExactComposeFamiliesSaid : Prop := fnExactComposeFamiliesRow.holds Try.pinned (OpenSpec.ofChange fnExactComposeFamiliesSpec)

/-- ITS FALSE NEIGHBOUR: 'it returns false'. Refute it at one input. -/
def fnExactComposeFamiliesWrong : ChangeSpec := { name := "fnExactComposeFamilies", fn := fun _ => fun
  | [d1, d2, d3, d4, d5] => { results := [.lit (.bool false)], args := [d1, d2, d3, d4, d5] }
  | _ => none }
def FnExactComposeFamiliesWrongFalsely : Prop := fnExactComposeFamiliesRow.holds Try.pinned (OpenSpec.ofChange fnExactComposeFamiliesWrong)

/-- 'laws.FnExactShiftComplex': WHATEVER THE INPUT: true; the input reads as it did. -/
def fnExactShiftComplexSpec : ChangeSpec := { name := "fnExactShiftComplex", fn := fun _ => fun
  | [d1, d2] => { results := [.lit (.bool true)], args := [d1, d2] }
  | _ => none }
def fnExactShiftComplexRow : OpenClaim := { program := "ytffggocjkhcgeaa", sum := "1d616ea2f03593c9aeb815632d2bf562d1c741ff0af4d9b4a2f7842c14721444", func := "loop.example/g01273/laws.FnExactShiftComplex", spec := "fnExactShiftComplex", unfollowed := true, recurses := true, apart := false }
def FnExactShiftComplexSaid : Prop := fnExactShiftComplexRow.holds Try.pinned (OpenSpec.ofChange fnExactShiftComplexSpec)

/-- ITS FALSE NEIGHBOUR: 'it returns false'. Refute it at one input. -/
def fnExactShiftComplexWrong : ChangeSpec := { name := "fnExactShiftComplex", fn := fun _ => fun
  | [d1, d2] => { results := [.lit (.bool false)], args := [d1, d2] }
  | _ => none }
def FnExactShiftComplexWrongFalsely : Prop := fnExactShiftComplexRow.holds Try.pinned (OpenSpec.ofChange fnExactShiftComplexWrong)

/-- 'laws.FnExactIsChainMap': WHATEVER THE INPUT: true; the input reads as it did. -/
def fnExactIsChainMapSpec : ChangeSpec := { name := "fnExactIsChainMap", fn := fun _ => fun
  | [d1, d2, d3] => { results := [.lit (.bool true)], args := [d1, d2, d3] }
  | _ => none }
def fnExactIsChainMapRow : OpenClaim := { program := "ytffggocjkhcgeaa", sum := "1d616ea2f03593c9aeb815632d2bf562d1c741ff0af4d9b4a2f7842c14721444", func := "loop.example/g01273/laws.FnExactIsChainMap", spec := "fnExactIsChainMap", unfollowed := true, recurses := true, apart := false }
def FnExactIsChainMapSaid : Prop := fnExactIsChainMapRow.holds Try.pinned (OpenSpec.ofChange fnExactIsChainMapSpec)

/-- ITS FALSE NEIGHBOUR: 'it returns false'. Refute it at one input. -/
def fnExactIsChainMapWrong : ChangeSpec := { name := "fnExactIsChainMap", fn := fun _ => fun
  | [d1, d2, d3] => { results := [.lit (.bool false)], args := [d1, d2, d3] }
  | _ => none }
def FnExactIsChainMapWrongFalsely : Prop := fnExactIsChainMapRow.holds Try.pinned (OpenSpec.ofChange fnExactIsChainMapWrong)

/-- 'laws.FnExactAddFamilies': WHATEVER THE INPUT: true; the input reads as it did. -/
def fnExactAddFamiliesSpec : ChangeSpec := { name := "fnExactAddFamilies", fn := fun _ => fun
  | [d1, d2, d3, d4, d5] => { results := [.lit (.bool true)], args := [d1, d2, d3, d4, d5] }
  | _ => none }
def fnExactAddFamiliesRow : OpenClaim := { program := "ytffggocjkhcgeaa", sum := "1d616ea2f03593c9aeb815632d2bf562d1c741ff0af4d9b4a2f7842c14721444", func := "loop.example/g01273/laws.FnExactAddFamilies", spec := "fnExactAddFamilies", unfollowed := true, recurses := true, apart := false }
def FnExactAddFamiliesSaid : Prop := fnExactAddFamiliesRow.holds Try.pinned (OpenSpec.ofChange fnExactAddFamiliesSpec)

/-- ITS FALSE NEIGHBOUR: 'it returns false'. Refute it at one input. -/
def fnExactAddFamiliesWrong : ChangeSpec := { name := "fnExactAddFamilies", fn := fun _ => fun
  | [d1, d2, d3, d4, d5] => { results := [.lit (.bool false)], args := [d1, d2, d3, d4, d5] }
  | _ => none }
def FnExactAddFamiliesWrongFalsely : Prop := fnExactAddFamiliesRow.holds Try.pinned (OpenSpec.ofChange fnExactAddFamiliesWrong)

/-- 'laws.FnExactSwapFamily': WHATEVER THE INPUT: true; the input reads as it did. -/
def fnExactSwapFamilySpec : ChangeSpec := { name := "fnExactSwapFamily", fn := fun _ => fun
  | [d1, d2] => { results := [.lit (.bool true)], args := [d1, d2] }
  | _ => none }
def fnExactSwapFamilyRow : OpenClaim := { program := "ytffggocjkhcgeaa", sum := "1d616ea2f03593c9aeb815632d2bf562d1c741ff0af4d9b4a2f7842c14721444", func := "loop.example/g01273/laws.FnExactSwapFamily", spec := "fnExactSwapFamily", unfollowed := true, recurses := true, apart := false }
def FnExactSwapFamilySaid : Prop := fnExactSwapFamilyRow.holds Try.pinned (OpenSpec.ofChange fnExactSwapFamilySpec)

/-- ITS FALSE NEIGHBOUR: 'it returns false'. Refute it at one input. -/
def fnExactSwapFamilyWrong : ChangeSpec := { name := "fnExactSwapFamily", fn := fun _ => fun
  | [d1, d2] => { results := [.lit (.bool false)], args := [d1, d2] }
  | _ => none }
def FnExactSwapFamilyWrongFalsely : Prop := fnExactSwapFamilyRow.holds Try.pinned (OpenSpec.ofChange fnExactSwapFamilyWrong)

/-- 'laws.FnExactTensorComplexes': WHATEVER THE INPUT: true; the input reads as it did. -/
def fnExactTensorComplexesSpec : ChangeSpec := { name := "fnExactTensorComplexes", fn := fun _ => fun
  | [d1, d2] => { results := [.lit (.bool true)], args := [d1, d2] }
  | _ => none }
def fnExactTensorComplexesRow : OpenClaim := { program := "ytffggocjkhcgeaa", sum := "1d616ea2f03593c9aeb815632d2bf562d1c741ff0af4d9b4a2f7842c14721444", func := "loop.example/g01273/laws.FnExactTensorComplexes", spec := "fnExactTensorComplexes", unfollowed := true, recurses := true, apart := false }
def FnExactTensorComplexesSaid : Prop := fnExactTensorComplexesRow.holds Try.pinned (OpenSpec.ofChange fnExactTensorComplexesSpec)

/-- ITS FALSE NEIGHBOUR: 'it returns false'. Refute it at one input. -/
def fnExactTensorComplexesWrong : ChangeSpec := { name := "fnExactTensorComplexes", fn := fun _ => fun
  | [d1, d2] => { results := [.lit (.bool false)], args := [d1, d2] }
  | _ => none }
def FnExactTensorComplexesWrongFalsely : Prop := fnExactTensorComplexesRow.holds Try.pinned (OpenSpec.ofChange fnExactTensorComplexesWrong)

/-- 'laws.FnExactPowerComplex': WHATEVER THE INPUT: true; the input reads as it did. -/
def fnExactPowerComplexSpec : ChangeSpec := { name := "fnExactPowerComplex", fn := fun _ => fun
  | [d1, d2] => { results := [.lit (.bool true)], args := [d1, d2] }
  | _ => none }
def fnExactPowerComplexRow : OpenClaim := { program := "ytffggocjkhcgeaa", sum := "1d616ea2f03593c9aeb815632d2bf562d1c741ff0af4d9b4a2f7842c14721444", func := "loop.example/g01273/laws.FnExactPowerComplex", spec := "fnExactPowerComplex", unfollowed := true, recurses := true, apart := false }
def FnExactPowerComplexSaid : Prop := fnExactPowerComplexRow.holds Try.pinned (OpenSpec.ofChange fnExactPowerComplexSpec)

/-- ITS FALSE NEIGHBOUR: 'it returns false'. Refute it at one input. -/
def fnExactPowerComplexWrong : ChangeSpec := { name := "fnExactPowerComplex", fn := fun _ => fun
  | [d1, d2] => { results := [.lit (.bool false)], args := [d1, d2] }
  | _ => none }
def FnExactPowerComplexWrongFalsely : Prop := fnExactPowerComplexRow.holds Try.pinned (OpenSpec.ofChange fnExactPowerComplexWrong)

/-- 'laws.FnExactProductFamily': WHATEVER THE INPUT: true; the input reads as it did. -/
def fnExactProductFamilySpec : ChangeSpec := { name := "fnExactProductFamily", fn := fun _ => fun
  | [d1, d2, d3, d4, d5, d6] => { results := [.lit (.bool true)], args := [d1, d2, d3, d4, d5, d6] }
  | _ => none }
def fnExactProductFamilyRow : OpenClaim := { program := "ytffggocjkhcgeaa", sum := "1d616ea2f03593c9aeb815632d2bf562d1c741ff0af4d9b4a2f7842c14721444", func := "loop.example/g01273/laws.FnExactProductFamily", spec := "fnExactProductFamily", unfollowed := true, recurses := true, apart := false }
def FnExactProductFamilySaid : Prop := fnExactProductFamilyRow.holds Try.pinned (OpenSpec.ofChange fnExactProductFamilySpec)

/-- ITS FALSE NEIGHBOUR: 'it returns false'. Refute it at one input. -/
def fnExactProductFamilyWrong : ChangeSpec := { name := "fnExactProductFamily", fn := fun _ => fun
  | [d1, d2, d3, d4, d5, d6] => { results := [.lit (.bool false)], args := [d1, d2, d3, d4, d5, d6] }
  | _ => none }
def FnExactProductFamilyWrongFalsely : Prop := fnExactProductFamilyRow.holds Try.pinned (OpenSpec.ofChange fnExactProductFamilyWrong)

/-- 'laws.FnExactPartOf': WHATEVER THE INPUT: true; the input reads as it did. -/
def fnExactPartOfSpec : ChangeSpec := { name := "fnExactPartOf", fn := fun _ => fun
  | [d1, d2] => { results := [.lit (.bool true)], args := [d1, d2] }
  | _ => none }
def fnExactPartOfRow : OpenClaim := { program := "ytffggocjkhcgeaa", sum := "1d616ea2f03593c9aeb815632d2bf562d1c741ff0af4d9b4a2f7842c14721444", func := "loop.example/g01273/laws.FnExactPartOf", spec := "fnExactPartOf", unfollowed := true, recurses := true, apart := false }
def FnExactPartOfSaid : Prop := fnExactPartOfRow.holds Try.pinned (OpenSpec.ofChange fnExactPartOfSpec)

/-- ITS FALSE NEIGHBOUR: 'it returns false'. Refute it at one input. -/
def fnExactPartOfWrong : ChangeSpec := { name := "fnExactPartOf", fn := fun _ => fun
  | [d1, d2] => { results := [.lit (.bool false)], args := [d1, d2] }
  | _ => none }
def FnExactPartOfWrongFalsely : Prop := fnExactPartOfRow.holds Try.pinned (OpenSpec.ofChange fnExactPartOfWrong)

/-- 'laws.FnExactIsHomotopy': WHATEVER THE INPUT: true; the input reads as it did. -/
def fnExactIsHomotopySpec : ChangeSpec := { name := "fnExactIsHomotopy", fn := fun _ => fun
  | [d1, d2, d3, d4, d5] => { results := [.lit (.bool true)], args := [d1, d2, d3, d4, d5] }
  | _ => none }
def fnExactIsHomotopyRow : OpenClaim := { program := "ytffggocjkhcgeaa", sum := "1d616ea2f03593c9aeb815632d2bf562d1c741ff0af4d9b4a2f7842c14721444", func := "loop.example/g01273/laws.FnExactIsHomotopy", spec := "fnExactIsHomotopy", unfollowed := true, recurses := true, apart := false }
def FnExactIsHomotopySaid : Prop := fnExactIsHomotopyRow.holds Try.pinned (OpenSpec.ofChange fnExactIsHomotopySpec)

/-- ITS FALSE NEIGHBOUR: 'it returns false'. Refute it at one input. -/
def fnExactIsHomotopyWrong : ChangeSpec := { name := "fnExactIsHomotopy", fn := fun _ => fun
  | [d1, d2, d3, d4, d5] => { results := [.lit (.bool false)], args := [d1, d2, d3, d4, d5] }
  | _ => none }
def FnExactIsHomotopyWrongFalsely : Prop := fnExactIsHomotopyRow.holds Try.pinned (OpenSpec.ofChange fnExactIsHomotopyWrong)

/- THE SECOND FORM. 'bulk': how many values and letters a reading holds, each counted each time it is reached (what is shared counts as often as it is met; a slice's spare places count too). A statement '..UptoSaid' is the law's where the arguments, and the package variables that the reading takes, are together of bulk at most 1048576: NARROWER than '..Said'. Prove '..Said' where nothing that the law and all that it calls make is longer than what came in: it says more and counts as full. Else prove '..UptoSaid'. A law counts once. -/
mutual
def uptoBulk {H : Type} : DataW H → Nat
  | .lit (.string bytes) => bytes.length + 1
  | .lit _ => 1
  | .nil => 1
  | .ptr d => uptoBulk d + 1
  | .slice elems spare => uptoBulkAll elems + uptoBulkAll spare + 1
  | .agg parts => uptoBulkAll parts + 1
  | .iface _ d => uptoBulk d + 1
  | .map entries => uptoBulkEntries entries + 1
  | .held _ => 1
def uptoBulkAll {H : Type} : List (DataW H) → Nat
  | [] => 0
  | d :: r => uptoBulk d + uptoBulkAll r
def uptoBulkEntries {H : Type} : List (Lit × DataW H) → Nat
  | [] => 0
  | x :: r => uptoBulkEntry x + uptoBulkEntries r
def uptoBulkEntry {H : Type} : Lit × DataW H → Nat
  | (.string bytes, d) => bytes.length + uptoBulk d + 1
  | (_, d) => uptoBulk d + 1
 end
def uptoSmall : (H : Type) → List (DataW H) → Bool := fun _ ds => decide (uptoBulkAll ds ≤ 1048576)
def OpenSpec.upto (s : _root_.Go.ChangeSpec) : _root_.Go.OpenSpec := { _root_.Go.OpenSpec.ofChange s with cond := some uptoSmall }

/-- 'laws.FnExactApplyFamily', WHERE WHAT IT READS IS OF BULK AT MOST 1048576: true; the input reads as it did. -/
def fnExactApplyFamilyUptoRow : OpenClaim := { program := "ytffggocjkhcgeaa", sum := "1d616ea2f03593c9aeb815632d2bf562d1c741ff0af4d9b4a2f7842c14721444", func := "loop.example/g01273/laws.FnExactApplyFamily", spec := "fnExactApplyFamily", unfollowed := true, recurses := true, apart := false, narrowed := true }
def FnExactApplyFamilyUptoSaid : Prop := fnExactApplyFamilyUptoRow.holds Try.pinned (OpenSpec.upto fnExactApplyFamilySpec)

/-- 'laws.FnExactAddComplexes', WHERE WHAT IT READS IS OF BULK AT MOST 1048576: true; the input reads as it did. -/
def fnExactAddComplexesUptoRow : OpenClaim := { program := "ytffggocjkhcgeaa", sum := "1d616ea2f03593c9aeb815632d2bf562d1c741ff0af4d9b4a2f7842c14721444", func := "loop.example/g01273/laws.FnExactAddComplexes", spec := "fnExactAddComplexes", unfollowed := true, recurses := true, apart := false, narrowed := true }
def FnExactAddComplexesUptoSaid : Prop := fnExactAddComplexesUptoRow.holds Try.pinned (OpenSpec.upto fnExactAddComplexesSpec)

/-- 'laws.FnExactComposeFamilies', WHERE WHAT IT READS IS OF BULK AT MOST 1048576: true; the input reads as it did. -/
def fnExactComposeFamiliesUptoRow : OpenClaim := { program := "ytffggocjkhcgeaa", sum := "1d616ea2f03593c9aeb815632d2bf562d1c741ff0af4d9b4a2f7842c14721444", func := "loop.example/g01273/laws.FnExactComposeFamilies", spec := "fnExactComposeFamilies", unfollowed := true, recurses := true, apart := false, narrowed := true }
def FnExactComposeFamiliesUptoSaid : Prop := fnExactComposeFamiliesUptoRow.holds Try.pinned (OpenSpec.upto fnExactComposeFamiliesSpec)

/-- 'laws.FnExactShiftComplex', WHERE WHAT IT READS IS OF BULK AT MOST 1048576: true; the input reads as it did. -/
def fnExactShiftComplexUptoRow : OpenClaim := { program := "ytffggocjkhcgeaa", sum := "1d616ea2f03593c9aeb815632d2bf562d1c741ff0af4d9b4a2f7842c14721444", func := "loop.example/g01273/laws.FnExactShiftComplex", spec := "fnExactShiftComplex", unfollowed := true, recurses := true, apart := false, narrowed := true }
def FnExactShiftComplexUptoSaid : Prop := fnExactShiftComplexUptoRow.holds Try.pinned (OpenSpec.upto fnExactShiftComplexSpec)

/-- 'laws.FnExactIsChainMap', WHERE WHAT IT READS IS OF BULK AT MOST 1048576: true; the input reads as it did. -/
def fnExactIsChainMapUptoRow : OpenClaim := { program := "ytffggocjkhcgeaa", sum := "1d616ea2f03593c9aeb815632d2bf562d1c741ff0af4d9b4a2f7842c14721444", func := "loop.example/g01273/laws.FnExactIsChainMap", spec := "fnExactIsChainMap", unfollowed := true, recurses := true, apart := false, narrowed := true }
def FnExactIsChainMapUptoSaid : Prop := fnExactIsChainMapUptoRow.holds Try.pinned (OpenSpec.upto fnExactIsChainMapSpec)

/-- 'laws.FnExactAddFamilies', WHERE WHAT IT READS IS OF BULK AT MOST 1048576: true; the input reads as it did. -/
def fnExactAddFamiliesUptoRow : OpenClaim := { program := "ytffggocjkhcgeaa", sum := "1d616ea2f03593c9aeb815632d2bf562d1c741ff0af4d9b4a2f7842c14721444", func := "loop.example/g01273/laws.FnExactAddFamilies", spec := "fnExactAddFamilies", unfollowed := true, recurses := true, apart := false, narrowed := true }
def FnExactAddFamiliesUptoSaid : Prop := fnExactAddFamiliesUptoRow.holds Try.pinned (OpenSpec.upto fnExactAddFamiliesSpec)

/-- 'laws.FnExactSwapFamily', WHERE WHAT IT READS IS OF BULK AT MOST 1048576: true; the input reads as it did. -/
def fnExactSwapFamilyUptoRow : OpenClaim := { program := "ytffggocjkhcgeaa", sum := "1d616ea2f03593c9aeb815632d2bf562d1c741ff0af4d9b4a2f7842c14721444", func := "loop.example/g01273/laws.FnExactSwapFamily", spec := "fnExactSwapFamily", unfollowed := true, recurses := true, apart := false, narrowed := true }
def FnExactSwapFamilyUptoSaid : Prop := fnExactSwapFamilyUptoRow.holds Try.pinned (OpenSpec.upto fnExactSwapFamilySpec)

/-- 'laws.FnExactTensorComplexes', WHERE WHAT IT READS IS OF BULK AT MOST 1048576: true; the input reads as it did. -/
def fnExactTensorComplexesUptoRow : OpenClaim := { program := "ytffggocjkhcgeaa", sum := "1d616ea2f03593c9aeb815632d2bf562d1c741ff0af4d9b4a2f7842c14721444", func := "loop.example/g01273/laws.FnExactTensorComplexes", spec := "fnExactTensorComplexes", unfollowed := true, recurses := true, apart := false, narrowed := true }
def FnExactTensorComplexesUptoSaid : Prop := fnExactTensorComplexesUptoRow.holds Try.pinned (OpenSpec.upto fnExactTensorComplexesSpec)

/-- 'laws.FnExactPowerComplex', WHERE WHAT IT READS IS OF BULK AT MOST 1048576: true; the input reads as it did. -/
def fnExactPowerComplexUptoRow : OpenClaim := { program := "ytffggocjkhcgeaa", sum := "1d616ea2f03593c9aeb815632d2bf562d1c741ff0af4d9b4a2f7842c14721444", func := "loop.example/g01273/laws.FnExactPowerComplex", spec := "fnExactPowerComplex", unfollowed := true, recurses := true, apart := false, narrowed := true }
def FnExactPowerComplexUptoSaid : Prop := fnExactPowerComplexUptoRow.holds Try.pinned (OpenSpec.upto fnExactPowerComplexSpec)

/-- 'laws.FnExactProductFamily', WHERE WHAT IT READS IS OF BULK AT MOST 1048576: true; the input reads as it did. -/
def fnExactProductFamilyUptoRow : OpenClaim := { program := "ytffggocjkhcgeaa", sum := "1d616ea2f03593c9aeb815632d2bf562d1c741ff0af4d9b4a2f7842c14721444", func := "loop.example/g01273/laws.FnExactProductFamily", spec := "fnExactProductFamily", unfollowed := true, recurses := true, apart := false, narrowed := true }
def FnExactProductFamilyUptoSaid : Prop := fnExactProductFamilyUptoRow.holds Try.pinned (OpenSpec.upto fnExactProductFamilySpec)

/-- 'laws.FnExactPartOf', WHERE WHAT IT READS IS OF BULK AT MOST 1048576: true; the input reads as it did. -/
def fnExactPartOfUptoRow : OpenClaim := { program := "ytffggocjkhcgeaa", sum := "1d616ea2f03593c9aeb815632d2bf562d1c741ff0af4d9b4a2f7842c14721444", func := "loop.example/g01273/laws.FnExactPartOf", spec := "fnExactPartOf", unfollowed := true, recurses := true, apart := false, narrowed := true }
def FnExactPartOfUptoSaid : Prop := fnExactPartOfUptoRow.holds Try.pinned (OpenSpec.upto fnExactPartOfSpec)

/-- 'laws.FnExactIsHomotopy', WHERE WHAT IT READS IS OF BULK AT MOST 1048576: true; the input reads as it did. -/
def fnExactIsHomotopyUptoRow : OpenClaim := { program := "ytffggocjkhcgeaa", sum := "1d616ea2f03593c9aeb815632d2bf562d1c741ff0af4d9b4a2f7842c14721444", func := "loop.example/g01273/laws.FnExactIsHomotopy", spec := "fnExactIsHomotopy", unfollowed := true, recurses := true, apart := false, narrowed := true }
def FnExactIsHomotopyUptoSaid : Prop := fnExactIsHomotopyUptoRow.holds Try.pinned (OpenSpec.upto fnExactIsHomotopySpec)

end Rows
end Go.Proofs.Ytffggocjkhcgeaa
