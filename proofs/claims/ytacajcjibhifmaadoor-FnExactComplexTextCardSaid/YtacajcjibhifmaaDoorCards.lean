/-
  DERIVED. GIVEN WITH THE SEED: THE CARDS: each row of YtacajcjibhifmaaDoorRows.lean that lists a variable, with what it lists TIED to the program's text (the seventh form; the later family's looks); each row that meets fmt, with fmt's text TOLD by the authors' own Lean function (tested against real Go, not proved from fmt's source: count such statements apart). THE CARD IS WHAT COUNTS. Prove the row's statement (the work); the ties are given (YtacajcjibhifmaaDoorTie.lean); close each card by the builder's one call (the guide's Derived/Test/ToyasCard.lean, 'card_holds'). Laid BY PROGRAM, IN A SANDBOX (cutbox-door.mjs). By AI agents, Wed Nov 11 2026. No macro, syntax, notation, axiom, sorry.
-/
import Derived.Test.YtacajcjibhifmaaDoorRows
import GoSem.ClaimSeven
namespace Go.Proofs.YtacajcjibhifmaaDoor
namespace Rows

/-- THE TIED CARD OF 'laws.FnExactComplexText'. -/
def fnExactComplexTextCard : Claim7 := { stood := { row := fnExactComplexTextRow, standIns := [], harness := (true, "c9fe6fe071530cee7dea287fdc6fb9da9c84f2e787907553579dddfebc2edc17"), looks := false }, kinds := [], alts := [], laidByText := true, laidKinds := [.data, .data, .data], laidTests := true, laidLooks := .later }
def FnExactComplexTextCardSaid : Prop := Claim7.holds Tryd.pinned (.plain (OpenSpec.ofChange fnExactComplexTextSpec)) fnExactComplexTextCard

/-- THE SECOND FORM's CARD OF 'laws.FnExactComplexText'. -/
def fnExactComplexTextUptoCard : Claim7 := { stood := { row := fnExactComplexTextUptoRow, standIns := [], harness := (true, "c9fe6fe071530cee7dea287fdc6fb9da9c84f2e787907553579dddfebc2edc17"), looks := false }, kinds := [], alts := [], laidByText := true, laidKinds := [.data, .data, .data], laidTests := true, laidLooks := .later }
def FnExactComplexTextUptoCardSaid : Prop := Claim7.holds Tryd.pinned (.plain (OpenSpec.upto fnExactComplexTextSpec)) fnExactComplexTextUptoCard
end Rows
end Go.Proofs.YtacajcjibhifmaaDoor
