/-
  No cell of these rows narrows 'for every input' (looked for: loops, veiled, ifaces, maps, wideKeys, modest, calm, conditions, laid).
  DERIVED. THE GIVEN ROWS OF THIS SEAT. 12 by the template 'for every input the law returns true; each argument reads behind the call as it read before'; 0 by the template 'total and deterministic' (their statements: YtjjjgllbocgkbaaTotals.lean).
  GIVEN WITH THE SEED: the statements are not yours to turn. If you find one false, say at which input.
  Laid BY PROGRAM, IN A SANDBOX (cutbox-rows.mjs): the forced cells as the released guide's own fill.sh prints them over the translation 1a6215ce03b177f0… (all of the seat's roots in one cut). By AI agents, Wed Nov 11 2026. No macro, syntax, notation, axiom, sorry.
-/
import Derived.Test.YtjjjgllbocgkbaaChecked
import GoSem.Claim
import GoSem.ClaimJoined
import GoSem.ClaimMapViews
import Derived.JoinedTies
import Derived.KernelRfl
namespace Go.Proofs.Ytjjjgllbocgkbaa
/- THE CELL 'sum', in the pinned program and in every row, IS THE sha256 OF THE DUMP (.gsa) THAT YtjjjgllbocgkbaaProg.lean LOADS. Nothing in Lean hashes anything: it is a label: what it is worth is what the hold of that sum in a sandbox is worth. -/
noncomputable def Try.pinned : Pinned := { name := "ytjjjgllbocgkbaa", sum := "1a6215ce03b177f03a95d784f4ba5dff0e8db00cedccb802071d171f3311e7df", checked := Try.checked }
namespace Rows
def none {H : Type} : Left H := { results := [], args := [] }

/-- 'laws.FnExactIsFiltered': WHATEVER THE INPUT: true; the input reads as it did. -/
def fnExactIsFilteredSpec : ChangeSpec := { name := "fnExactIsFiltered", fn := fun _ => fun
  | [d] => { results := [.lit (.bool true)], args := [d] }
  | _ => none }
def fnExactIsFilteredRow : OpenClaim := { program := "ytjjjgllbocgkbaa", sum := "1a6215ce03b177f03a95d784f4ba5dff0e8db00cedccb802071d171f3311e7df", func := "loop.example/g01273/laws.FnExactIsFiltered", spec := "fnExactIsFiltered", unfollowed := true, recurses := true, apart := false }
def FnExactIsFilteredSaid : Prop := fnExactIsFilteredRow.holds Try.pinned (OpenSpec.ofChange fnExactIsFilteredSpec)

/-- ITS FALSE NEIGHBOUR: 'it returns false'. Refute it at one input. -/
def fnExactIsFilteredWrong : ChangeSpec := { name := "fnExactIsFiltered", fn := fun _ => fun
  | [d] => { results := [.lit (.bool false)], args := [d] }
  | _ => none }
def FnExactIsFilteredWrongFalsely : Prop := fnExactIsFilteredRow.holds Try.pinned (OpenSpec.ofChange fnExactIsFilteredWrong)

/-- 'laws.FnExactPartOf': WHATEVER THE INPUT: true; the input reads as it did. -/
def fnExactPartOfSpec : ChangeSpec := { name := "fnExactPartOf", fn := fun _ => fun
  | [d1, d2] => { results := [.lit (.bool true)], args := [d1, d2] }
  | _ => none }
def fnExactPartOfRow : OpenClaim := { program := "ytjjjgllbocgkbaa", sum := "1a6215ce03b177f03a95d784f4ba5dff0e8db00cedccb802071d171f3311e7df", func := "loop.example/g01273/laws.FnExactPartOf", spec := "fnExactPartOf", unfollowed := true, recurses := true, apart := false }
def FnExactPartOfSaid : Prop := fnExactPartOfRow.holds Try.pinned (OpenSpec.ofChange fnExactPartOfSpec)

/-- ITS FALSE NEIGHBOUR: 'it returns false'. Refute it at one input. -/
def fnExactPartOfWrong : ChangeSpec := { name := "fnExactPartOf", fn := fun _ => fun
  | [d1, d2] => { results := [.lit (.bool false)], args := [d1, d2] }
  | _ => none }
def FnExactPartOfWrongFalsely : Prop := fnExactPartOfRow.holds Try.pinned (OpenSpec.ofChange fnExactPartOfWrong)

/-- 'laws.FnExactBottomOf': WHATEVER THE INPUT: true; the input reads as it did. -/
def fnExactBottomOfSpec : ChangeSpec := { name := "fnExactBottomOf", fn := fun _ => fun
  | [d1, d2, d3, d4] => { results := [.lit (.bool true)], args := [d1, d2, d3, d4] }
  | _ => none }
def fnExactBottomOfRow : OpenClaim := { program := "ytjjjgllbocgkbaa", sum := "1a6215ce03b177f03a95d784f4ba5dff0e8db00cedccb802071d171f3311e7df", func := "loop.example/g01273/laws.FnExactBottomOf", spec := "fnExactBottomOf", unfollowed := true, recurses := true, apart := false }
def FnExactBottomOfSaid : Prop := fnExactBottomOfRow.holds Try.pinned (OpenSpec.ofChange fnExactBottomOfSpec)

/-- ITS FALSE NEIGHBOUR: 'it returns false'. Refute it at one input. -/
def fnExactBottomOfWrong : ChangeSpec := { name := "fnExactBottomOf", fn := fun _ => fun
  | [d1, d2, d3, d4] => { results := [.lit (.bool false)], args := [d1, d2, d3, d4] }
  | _ => none }
def FnExactBottomOfWrongFalsely : Prop := fnExactBottomOfRow.holds Try.pinned (OpenSpec.ofChange fnExactBottomOfWrong)

/-- 'laws.FnExactPageNumber': WHATEVER THE INPUT: true; the input reads as it did. -/
def fnExactPageNumberSpec : ChangeSpec := { name := "fnExactPageNumber", fn := fun _ => fun
  | [d1, d2, d3, d4] => { results := [.lit (.bool true)], args := [d1, d2, d3, d4] }
  | _ => none }
def fnExactPageNumberRow : OpenClaim := { program := "ytjjjgllbocgkbaa", sum := "1a6215ce03b177f03a95d784f4ba5dff0e8db00cedccb802071d171f3311e7df", func := "loop.example/g01273/laws.FnExactPageNumber", spec := "fnExactPageNumber", unfollowed := true, recurses := true, apart := false }
def FnExactPageNumberSaid : Prop := fnExactPageNumberRow.holds Try.pinned (OpenSpec.ofChange fnExactPageNumberSpec)

/-- ITS FALSE NEIGHBOUR: 'it returns false'. Refute it at one input. -/
def fnExactPageNumberWrong : ChangeSpec := { name := "fnExactPageNumber", fn := fun _ => fun
  | [d1, d2, d3, d4] => { results := [.lit (.bool false)], args := [d1, d2, d3, d4] }
  | _ => none }
def FnExactPageNumberWrongFalsely : Prop := fnExactPageNumberRow.holds Try.pinned (OpenSpec.ofChange fnExactPageNumberWrong)

/-- 'laws.FnExactLimitNumber': WHATEVER THE INPUT: true; the input reads as it did. -/
def fnExactLimitNumberSpec : ChangeSpec := { name := "fnExactLimitNumber", fn := fun _ => fun
  | [d1, d2, d3] => { results := [.lit (.bool true)], args := [d1, d2, d3] }
  | _ => none }
def fnExactLimitNumberRow : OpenClaim := { program := "ytjjjgllbocgkbaa", sum := "1a6215ce03b177f03a95d784f4ba5dff0e8db00cedccb802071d171f3311e7df", func := "loop.example/g01273/laws.FnExactLimitNumber", spec := "fnExactLimitNumber", unfollowed := true, recurses := true, apart := false }
def FnExactLimitNumberSaid : Prop := fnExactLimitNumberRow.holds Try.pinned (OpenSpec.ofChange fnExactLimitNumberSpec)

/-- ITS FALSE NEIGHBOUR: 'it returns false'. Refute it at one input. -/
def fnExactLimitNumberWrong : ChangeSpec := { name := "fnExactLimitNumber", fn := fun _ => fun
  | [d1, d2, d3] => { results := [.lit (.bool false)], args := [d1, d2, d3] }
  | _ => none }
def FnExactLimitNumberWrongFalsely : Prop := fnExactLimitNumberRow.holds Try.pinned (OpenSpec.ofChange fnExactLimitNumberWrong)

/-- 'laws.FnExactApproximateCycles': WHATEVER THE INPUT: true; the input reads as it did. -/
def fnExactApproximateCyclesSpec : ChangeSpec := { name := "fnExactApproximateCycles", fn := fun _ => fun
  | [d1, d2, d3, d4] => { results := [.lit (.bool true)], args := [d1, d2, d3, d4] }
  | _ => none }
def fnExactApproximateCyclesRow : OpenClaim := { program := "ytjjjgllbocgkbaa", sum := "1a6215ce03b177f03a95d784f4ba5dff0e8db00cedccb802071d171f3311e7df", func := "loop.example/g01273/laws.FnExactApproximateCycles", spec := "fnExactApproximateCycles", unfollowed := true, recurses := true, apart := false }
def FnExactApproximateCyclesSaid : Prop := fnExactApproximateCyclesRow.holds Try.pinned (OpenSpec.ofChange fnExactApproximateCyclesSpec)

/-- ITS FALSE NEIGHBOUR: 'it returns false'. Refute it at one input. -/
def fnExactApproximateCyclesWrong : ChangeSpec := { name := "fnExactApproximateCycles", fn := fun _ => fun
  | [d1, d2, d3, d4] => { results := [.lit (.bool false)], args := [d1, d2, d3, d4] }
  | _ => none }
def FnExactApproximateCyclesWrongFalsely : Prop := fnExactApproximateCyclesRow.holds Try.pinned (OpenSpec.ofChange fnExactApproximateCyclesWrong)

/-- 'laws.FnExactRankBetween': WHATEVER THE INPUT: true; the input reads as it did. -/
def fnExactRankBetweenSpec : ChangeSpec := { name := "fnExactRankBetween", fn := fun _ => fun
  | [d1, d2, d3, d4] => { results := [.lit (.bool true)], args := [d1, d2, d3, d4] }
  | _ => none }
def fnExactRankBetweenRow : OpenClaim := { program := "ytjjjgllbocgkbaa", sum := "1a6215ce03b177f03a95d784f4ba5dff0e8db00cedccb802071d171f3311e7df", func := "loop.example/g01273/laws.FnExactRankBetween", spec := "fnExactRankBetween", unfollowed := true, recurses := true, apart := false }
def FnExactRankBetweenSaid : Prop := fnExactRankBetweenRow.holds Try.pinned (OpenSpec.ofChange fnExactRankBetweenSpec)

/-- ITS FALSE NEIGHBOUR: 'it returns false'. Refute it at one input. -/
def fnExactRankBetweenWrong : ChangeSpec := { name := "fnExactRankBetween", fn := fun _ => fun
  | [d1, d2, d3, d4] => { results := [.lit (.bool false)], args := [d1, d2, d3, d4] }
  | _ => none }
def FnExactRankBetweenWrongFalsely : Prop := fnExactRankBetweenRow.holds Try.pinned (OpenSpec.ofChange fnExactRankBetweenWrong)

/-- 'laws.FnExactDerivedCouple': WHATEVER THE INPUT: true; the input reads as it did. -/
def fnExactDerivedCoupleSpec : ChangeSpec := { name := "fnExactDerivedCouple", fn := fun _ => fun
  | [d] => { results := [.lit (.bool true)], args := [d] }
  | _ => none }
def fnExactDerivedCoupleRow : OpenClaim := { program := "ytjjjgllbocgkbaa", sum := "1a6215ce03b177f03a95d784f4ba5dff0e8db00cedccb802071d171f3311e7df", func := "loop.example/g01273/laws.FnExactDerivedCouple", spec := "fnExactDerivedCouple", unfollowed := true, recurses := true, apart := false }
def FnExactDerivedCoupleSaid : Prop := fnExactDerivedCoupleRow.holds Try.pinned (OpenSpec.ofChange fnExactDerivedCoupleSpec)

/-- ITS FALSE NEIGHBOUR: 'it returns false'. Refute it at one input. -/
def fnExactDerivedCoupleWrong : ChangeSpec := { name := "fnExactDerivedCouple", fn := fun _ => fun
  | [d] => { results := [.lit (.bool false)], args := [d] }
  | _ => none }
def FnExactDerivedCoupleWrongFalsely : Prop := fnExactDerivedCoupleRow.holds Try.pinned (OpenSpec.ofChange fnExactDerivedCoupleWrong)

/-- 'laws.FnExactStablePage': WHATEVER THE INPUT: true; the input reads as it did. -/
def fnExactStablePageSpec : ChangeSpec := { name := "fnExactStablePage", fn := fun _ => fun
  | [d] => { results := [.lit (.bool true)], args := [d] }
  | _ => none }
def fnExactStablePageRow : OpenClaim := { program := "ytjjjgllbocgkbaa", sum := "1a6215ce03b177f03a95d784f4ba5dff0e8db00cedccb802071d171f3311e7df", func := "loop.example/g01273/laws.FnExactStablePage", spec := "fnExactStablePage", unfollowed := true, recurses := true, apart := false }
def FnExactStablePageSaid : Prop := fnExactStablePageRow.holds Try.pinned (OpenSpec.ofChange fnExactStablePageSpec)

/-- ITS FALSE NEIGHBOUR: 'it returns false'. Refute it at one input. -/
def fnExactStablePageWrong : ChangeSpec := { name := "fnExactStablePage", fn := fun _ => fun
  | [d] => { results := [.lit (.bool false)], args := [d] }
  | _ => none }
def FnExactStablePageWrongFalsely : Prop := fnExactStablePageRow.holds Try.pinned (OpenSpec.ofChange fnExactStablePageWrong)

/-- 'laws.FnExactPageSizes': WHATEVER THE INPUT: true; the input reads as it did. -/
def fnExactPageSizesSpec : ChangeSpec := { name := "fnExactPageSizes", fn := fun _ => fun
  | [d1, d2] => { results := [.lit (.bool true)], args := [d1, d2] }
  | _ => none }
def fnExactPageSizesRow : OpenClaim := { program := "ytjjjgllbocgkbaa", sum := "1a6215ce03b177f03a95d784f4ba5dff0e8db00cedccb802071d171f3311e7df", func := "loop.example/g01273/laws.FnExactPageSizes", spec := "fnExactPageSizes", unfollowed := true, recurses := true, apart := false }
def FnExactPageSizesSaid : Prop := fnExactPageSizesRow.holds Try.pinned (OpenSpec.ofChange fnExactPageSizesSpec)

/-- ITS FALSE NEIGHBOUR: 'it returns false'. Refute it at one input. -/
def fnExactPageSizesWrong : ChangeSpec := { name := "fnExactPageSizes", fn := fun _ => fun
  | [d1, d2] => { results := [.lit (.bool false)], args := [d1, d2] }
  | _ => none }
def FnExactPageSizesWrongFalsely : Prop := fnExactPageSizesRow.holds Try.pinned (OpenSpec.ofChange fnExactPageSizesWrong)

/-- 'laws.FnExactProductDouble': WHATEVER THE INPUT: true; the input reads as it did. -/
def fnExactProductDoubleSpec : ChangeSpec := { name := "fnExactProductDouble", fn := fun _ => fun
  | [d1, d2] => { results := [.lit (.bool true)], args := [d1, d2] }
  | _ => none }
def fnExactProductDoubleRow : OpenClaim := { program := "ytjjjgllbocgkbaa", sum := "1a6215ce03b177f03a95d784f4ba5dff0e8db00cedccb802071d171f3311e7df", func := "loop.example/g01273/laws.FnExactProductDouble", spec := "fnExactProductDouble", unfollowed := true, recurses := true, apart := false }
def FnExactProductDoubleSaid : Prop := fnExactProductDoubleRow.holds Try.pinned (OpenSpec.ofChange fnExactProductDoubleSpec)

/-- ITS FALSE NEIGHBOUR: 'it returns false'. Refute it at one input. -/
def fnExactProductDoubleWrong : ChangeSpec := { name := "fnExactProductDouble", fn := fun _ => fun
  | [d1, d2] => { results := [.lit (.bool false)], args := [d1, d2] }
  | _ => none }
def FnExactProductDoubleWrongFalsely : Prop := fnExactProductDoubleRow.holds Try.pinned (OpenSpec.ofChange fnExactProductDoubleWrong)

/-- 'laws.FnExactProductFamily': WHATEVER THE INPUT: true; the input reads as it did. -/
def fnExactProductFamilySpec : ChangeSpec := { name := "fnExactProductFamily", fn := fun _ => fun
  | [d1, d2, d3, d4, d5, d6] => { results := [.lit (.bool true)], args := [d1, d2, d3, d4, d5, d6] }
  | _ => none }
def fnExactProductFamilyRow : OpenClaim := { program := "ytjjjgllbocgkbaa", sum := "1a6215ce03b177f03a95d784f4ba5dff0e8db00cedccb802071d171f3311e7df", func := "loop.example/g01273/laws.FnExactProductFamily", spec := "fnExactProductFamily", unfollowed := true, recurses := true, apart := false }
def FnExactProductFamilySaid : Prop := fnExactProductFamilyRow.holds Try.pinned (OpenSpec.ofChange fnExactProductFamilySpec)

/-- ITS FALSE NEIGHBOUR: 'it returns false'. Refute it at one input. -/
def fnExactProductFamilyWrong : ChangeSpec := { name := "fnExactProductFamily", fn := fun _ => fun
  | [d1, d2, d3, d4, d5, d6] => { results := [.lit (.bool false)], args := [d1, d2, d3, d4, d5, d6] }
  | _ => none }
def FnExactProductFamilyWrongFalsely : Prop := fnExactProductFamilyRow.holds Try.pinned (OpenSpec.ofChange fnExactProductFamilyWrong)

/- THE SECOND FORM. 'bulk': how many values and letters a reading holds, each counted each time it is reached (what is shared counts as often as it is met; a slice's spare places count too). A statement '..UptoSaid' is the law's where the arguments, and the package variables that the reading takes, are together of bulk at most 1048576: NARROWER than '..Said'. Prove '..Said' where nothing that the law and all that it calls make is longer than what came in: it says more and counts as full. Else prove '..UptoSaid'. A law counts once. -/
mutual
def uptoBulk {H : Type} : DataW H → Nat
  | .lit (.string bytes) => bytes.length + 1
  | .lit _ => 1
  | .nil => 1
  | .ptr d => uptoBulk d + 1
  | .slice elems spare => uptoBulkAll elems + uptoBulkAll spare + 1
  | .agg parts => uptoBulkAll parts + 1
  | .iface _ d => uptoBulk d + 1
  | .map entries => uptoBulkEntries entries + 1
  | .held _ => 1
def uptoBulkAll {H : Type} : List (DataW H) → Nat
  | [] => 0
  | d :: r => uptoBulk d + uptoBulkAll r
def uptoBulkEntries {H : Type} : List (Lit × DataW H) → Nat
  | [] => 0
  | x :: r => uptoBulkEntry x + uptoBulkEntries r
def uptoBulkEntry {H : Type} : Lit × DataW H → Nat
  | (.string bytes, d) => bytes.length + uptoBulk d + 1
  | (_, d) => uptoBulk d + 1
 end
def uptoSmall : (H : Type) → List (DataW H) → Bool := fun _ ds => decide (uptoBulkAll ds ≤ 1048576)
def OpenSpec.upto (s : _root_.Go.ChangeSpec) : _root_.Go.OpenSpec := { _root_.Go.OpenSpec.ofChange s with cond := some uptoSmall }

/-- 'laws.FnExactIsFiltered', WHERE WHAT IT READS IS OF BULK AT MOST 1048576: true; the input reads as it did. -/
def fnExactIsFilteredUptoRow : OpenClaim := { program := "ytjjjgllbocgkbaa", sum := "1a6215ce03b177f03a95d784f4ba5dff0e8db00cedccb802071d171f3311e7df", func := "loop.example/g01273/laws.FnExactIsFiltered", spec := "fnExactIsFiltered", unfollowed := true, recurses := true, apart := false, narrowed := true }
def FnExactIsFilteredUptoSaid : Prop := fnExactIsFilteredUptoRow.holds Try.pinned (OpenSpec.upto fnExactIsFilteredSpec)

/-- 'laws.FnExactPartOf', WHERE WHAT IT READS IS OF BULK AT MOST 1048576: true; the input reads as it did. -/
def fnExactPartOfUptoRow : OpenClaim := { program := "ytjjjgllbocgkbaa", sum := "1a6215ce03b177f03a95d784f4ba5dff0e8db00cedccb802071d171f3311e7df", func := "loop.example/g01273/laws.FnExactPartOf", spec := "fnExactPartOf", unfollowed := true, recurses := true, apart := false, narrowed := true }
def FnExactPartOfUptoSaid : Prop := fnExactPartOfUptoRow.holds Try.pinned (OpenSpec.upto fnExactPartOfSpec)

/-- 'laws.FnExactBottomOf', WHERE WHAT IT READS IS OF BULK AT MOST 1048576: true; the input reads as it did. -/
def fnExactBottomOfUptoRow : OpenClaim := { program := "ytjjjgllbocgkbaa", sum := "1a6215ce03b177f03a95d784f4ba5dff0e8db00cedccb802071d171f3311e7df", func := "loop.example/g01273/laws.FnExactBottomOf", spec := "fnExactBottomOf", unfollowed := true, recurses := true, apart := false, narrowed := true }
def FnExactBottomOfUptoSaid : Prop := fnExactBottomOfUptoRow.holds Try.pinned (OpenSpec.upto fnExactBottomOfSpec)

/-- 'laws.FnExactPageNumber', WHERE WHAT IT READS IS OF BULK AT MOST 1048576: true; the input reads as it did. -/
def fnExactPageNumberUptoRow : OpenClaim := { program := "ytjjjgllbocgkbaa", sum := "1a6215ce03b177f03a95d784f4ba5dff0e8db00cedccb802071d171f3311e7df", func := "loop.example/g01273/laws.FnExactPageNumber", spec := "fnExactPageNumber", unfollowed := true, recurses := true, apart := false, narrowed := true }
def FnExactPageNumberUptoSaid : Prop := fnExactPageNumberUptoRow.holds Try.pinned (OpenSpec.upto fnExactPageNumberSpec)

/-- 'laws.FnExactLimitNumber', WHERE WHAT IT READS IS OF BULK AT MOST 1048576: true; the input reads as it did. -/
def fnExactLimitNumberUptoRow : OpenClaim := { program := "ytjjjgllbocgkbaa", sum := "1a6215ce03b177f03a95d784f4ba5dff0e8db00cedccb802071d171f3311e7df", func := "loop.example/g01273/laws.FnExactLimitNumber", spec := "fnExactLimitNumber", unfollowed := true, recurses := true, apart := false, narrowed := true }
def FnExactLimitNumberUptoSaid : Prop := fnExactLimitNumberUptoRow.holds Try.pinned (OpenSpec.upto fnExactLimitNumberSpec)

/-- 'laws.FnExactApproximateCycles', WHERE WHAT IT READS IS OF BULK AT MOST 1048576: true; the input reads as it did. -/
def fnExactApproximateCyclesUptoRow : OpenClaim := { program := "ytjjjgllbocgkbaa", sum := "1a6215ce03b177f03a95d784f4ba5dff0e8db00cedccb802071d171f3311e7df", func := "loop.example/g01273/laws.FnExactApproximateCycles", spec := "fnExactApproximateCycles", unfollowed := true, recurses := true, apart := false, narrowed := true }
def FnExactApproximateCyclesUptoSaid : Prop := fnExactApproximateCyclesUptoRow.holds Try.pinned (OpenSpec.upto fnExactApproximateCyclesSpec)

/-- 'laws.FnExactRankBetween', WHERE WHAT IT READS IS OF BULK AT MOST 1048576: true; the input reads as it did. -/
def fnExactRankBetweenUptoRow : OpenClaim := { program := "ytjjjgllbocgkbaa", sum := "1a6215ce03b177f03a95d784f4ba5dff0e8db00cedccb802071d171f3311e7df", func := "loop.example/g01273/laws.FnExactRankBetween", spec := "fnExactRankBetween", unfollowed := true, recurses := true, apart := false, narrowed := true }
def FnExactRankBetweenUptoSaid : Prop := fnExactRankBetweenUptoRow.holds Try.pinned (OpenSpec.upto fnExactRankBetweenSpec)

/-- 'laws.FnExactDerivedCouple', WHERE WHAT IT READS IS OF BULK AT MOST 1048576: true; the input reads as it did. -/
def fnExactDerivedCoupleUptoRow : OpenClaim := { program := "ytjjjgllbocgkbaa", sum := "1a6215ce03b177f03a95d784f4ba5dff0e8db00cedccb802071d171f3311e7df", func := "loop.example/g01273/laws.FnExactDerivedCouple", spec := "fnExactDerivedCouple", unfollowed := true, recurses := true, apart := false, narrowed := true }
def FnExactDerivedCoupleUptoSaid : Prop := fnExactDerivedCoupleUptoRow.holds Try.pinned (OpenSpec.upto fnExactDerivedCoupleSpec)

/-- 'laws.FnExactStablePage', WHERE WHAT IT READS IS OF BULK AT MOST 1048576: true; the input reads as it did. -/
def fnExactStablePageUptoRow : OpenClaim := { program := "ytjjjgllbocgkbaa", sum := "1a6215ce03b177f03a95d784f4ba5dff0e8db00cedccb802071d171f3311e7df", func := "loop.example/g01273/laws.FnExactStablePage", spec := "fnExactStablePage", unfollowed := true, recurses := true, apart := false, narrowed := true }
def FnExactStablePageUptoSaid : Prop := fnExactStablePageUptoRow.holds Try.pinned (OpenSpec.upto fnExactStablePageSpec)

/-- 'laws.FnExactPageSizes', WHERE WHAT IT READS IS OF BULK AT MOST 1048576: true; the input reads as it did. -/
def fnExactPageSizesUptoRow : OpenClaim := { program := "ytjjjgllbocgkbaa", sum := "1a6215ce03b177f03a95d784f4ba5dff0e8db00cedccb802071d171f3311e7df", func := "loop.example/g01273/laws.FnExactPageSizes", spec := "fnExactPageSizes", unfollowed := true, recurses := true, apart := false, narrowed := true }
def FnExactPageSizesUptoSaid : Prop := fnExactPageSizesUptoRow.holds Try.pinned (OpenSpec.upto fnExactPageSizesSpec)

/-- 'laws.FnExactProductDouble', WHERE WHAT IT READS IS OF BULK AT MOST 1048576: true; the input reads as it did. -/
def fnExactProductDoubleUptoRow : OpenClaim := { program := "ytjjjgllbocgkbaa", sum := "1a6215ce03b177f03a95d784f4ba5dff0e8db00cedccb802071d171f3311e7df", func := "loop.example/g01273/laws.FnExactProductDouble", spec := "fnExactProductDouble", unfollowed := true, recurses := true, apart := false, narrowed := true }
def FnExactProductDoubleUptoSaid : Prop := fnExactProductDoubleUptoRow.holds Try.pinned (OpenSpec.upto fnExactProductDoubleSpec)

/-- 'laws.FnExactProductFamily', WHERE WHAT IT READS IS OF BULK AT MOST 1048576: true; the input reads as it did. -/
def fnExactProductFamilyUptoRow : OpenClaim := { program := "ytjjjgllbocgkbaa", sum := "1a6215ce03b177f03a95d784f4ba5dff0e8db00cedccb802071d171f3311e7df", func := "loop.example/g01273/laws.FnExactProductFamily", spec := "fnExactProductFamily", unfollowed := true, recurses := true, apart := false, narrowed := true }
def FnExactProductFamilyUptoSaid : Prop := fnExactProductFamilyUptoRow.holds Try.pinned (OpenSpec.upto fnExactProductFamilySpec)

end Rows
end Go.Proofs.Ytjjjgllbocgkbaa
