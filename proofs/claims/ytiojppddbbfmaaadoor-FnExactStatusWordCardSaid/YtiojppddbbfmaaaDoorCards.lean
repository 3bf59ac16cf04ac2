/-
  DERIVED. GIVEN WITH THE SEED: THE CARDS: each row of YtiojppddbbfmaaaDoorRows.lean that lists a variable, with what it lists TIED to the program's text (the seventh form; the later family's looks); each row that meets fmt, with fmt's text TOLD by the authors' own Lean function (tested against real Go, not proved from fmt's source: count such statements apart). THE CARD IS WHAT COUNTS. Prove the row's statement (the work); the ties are given (YtiojppddbbfmaaaDoorTie.lean); close each card by the builder's one call (the guide's Derived/Test/ToyasCard.lean, 'card_holds'). Laid BY PROGRAM, IN A SANDBOX (cutbox-door.mjs). By AI agents, Wed Nov 11 2026. No macro, syntax, notation, axiom, sorry.
-/
import Derived.Test.YtiojppddbbfmaaaDoorRows
import GoSem.ClaimSeven
namespace Go.Proofs.YtiojppddbbfmaaaDoor
namespace Rows

/-- THE TIED CARD OF 'laws.FnExactSolverWord'. -/
def fnExactSolverWordCard : Claim7 := { stood := { row := fnExactSolverWordRow, standIns := [], harness := (true, "24e26db1f93ece38ed85435715ee225277f86afce03bbb12a1e929d9d411c3c7"), looks := false }, kinds := [], alts := [], laidByText := true, laidKinds := [.widerDeep], laidTests := true, laidLooks := .later }
def FnExactSolverWordCardSaid : Prop := Claim7.holds Tryd.pinned (.plain (OpenSpec.ofChange fnExactSolverWordSpec)) fnExactSolverWordCard

/-- THE TIED CARD OF 'laws.FnExactStatusWord'. -/
def fnExactStatusWordCard : Claim7 := { stood := { row := fnExactStatusWordRow, standIns := [], harness := (true, "24e26db1f93ece38ed85435715ee225277f86afce03bbb12a1e929d9d411c3c7"), looks := false }, kinds := [], alts := [], laidByText := true, laidKinds := [.widerDeep], laidTests := true, laidLooks := .later }
def FnExactStatusWordCardSaid : Prop := Claim7.holds Tryd.pinned (.plain (OpenSpec.ofChange fnExactStatusWordSpec)) fnExactStatusWordCard

/-- THE SECOND FORM's CARD OF 'laws.FnExactSolverWord'. -/
def fnExactSolverWordUptoCard : Claim7 := { stood := { row := fnExactSolverWordUptoRow, standIns := [], harness := (true, "24e26db1f93ece38ed85435715ee225277f86afce03bbb12a1e929d9d411c3c7"), looks := false }, kinds := [], alts := [], laidByText := true, laidKinds := [.widerDeep], laidTests := true, laidLooks := .later }
def FnExactSolverWordUptoCardSaid : Prop := Claim7.holds Tryd.pinned (.plain (OpenSpec.upto fnExactSolverWordSpec)) fnExactSolverWordUptoCard

/-- THE SECOND FORM's CARD OF 'laws.FnExactStatusWord'. -/
def fnExactStatusWordUptoCard : Claim7 := { stood := { row := fnExactStatusWordUptoRow, standIns := [], harness := (true, "24e26db1f93ece38ed85435715ee225277f86afce03bbb12a1e929d9d411c3c7"), looks := false }, kinds := [], alts := [], laidByText := true, laidKinds := [.widerDeep], laidTests := true, laidLooks := .later }
def FnExactStatusWordUptoCardSaid : Prop := Claim7.holds Tryd.pinned (.plain (OpenSpec.upto fnExactStatusWordSpec)) fnExactStatusWordUptoCard
end Rows
end Go.Proofs.YtiojppddbbfmaaaDoor
