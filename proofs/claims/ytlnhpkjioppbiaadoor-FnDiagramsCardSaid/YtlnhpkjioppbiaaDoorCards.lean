/-
  DERIVED. GIVEN WITH THE SEED: THE CARDS: each row of YtlnhpkjioppbiaaDoorRows.lean that lists a variable, with what it lists TIED to the program's text (the seventh form; the later family's looks); each row that meets fmt, with fmt's text TOLD by the authors' own Lean function (tested against real Go, not proved from fmt's source: count such statements apart). THE CARD IS WHAT COUNTS. Prove the row's statement (the work); the ties are given (YtlnhpkjioppbiaaDoorTie.lean); close each card by the builder's one call (the guide's Derived/Test/ToyasCard.lean, 'card_holds'). Laid BY PROGRAM, IN A SANDBOX (cutbox-door.mjs). By AI agents, Wed Nov 11 2026. No macro, syntax, notation, axiom, sorry.
-/
import Derived.Test.YtlnhpkjioppbiaaDoorRows
import GoSem.ClaimSeven
namespace Go.Proofs.YtlnhpkjioppbiaaDoor
namespace Rows

/-- THE TIED CARD OF 'laws.FnDiagrams'. -/
def fnDiagramsCard : Claim7 := { stood := { row := fnDiagramsRow, standIns := [], harness := (true, "d28253c716cd20c8b9d3be5589734219f479b20fb0fd1b6182495f1f250a6f44"), looks := false }, kinds := [], alts := [], laidByText := true, laidKinds := [.data, .data, .data], laidTests := true, laidLooks := .later }
def FnDiagramsCardSaid : Prop := Claim7.holds Tryd.pinned (.plain (OpenSpec.ofChange fnDiagramsSpec)) fnDiagramsCard

/-- THE TIED CARD OF 'laws.FnTables'. -/
def fnTablesCard : Claim7 := { stood := { row := fnTablesRow, standIns := [], harness := (true, "d28253c716cd20c8b9d3be5589734219f479b20fb0fd1b6182495f1f250a6f44"), looks := false }, kinds := [], alts := [], laidByText := true, laidKinds := [.data, .data, .data], laidTests := true, laidLooks := .later }
def FnTablesCardSaid : Prop := Claim7.holds Tryd.pinned (.plain (OpenSpec.ofChange fnTablesSpec)) fnTablesCard

/-- THE SECOND FORM's CARD OF 'laws.FnDiagrams'. -/
def fnDiagramsUptoCard : Claim7 := { stood := { row := fnDiagramsUptoRow, standIns := [], harness := (true, "d28253c716cd20c8b9d3be5589734219f479b20fb0fd1b6182495f1f250a6f44"), looks := false }, kinds := [], alts := [], laidByText := true, laidKinds := [.data, .data, .data], laidTests := true, laidLooks := .later }
def FnDiagramsUptoCardSaid : Prop := Claim7.holds Tryd.pinned (.plain (OpenSpec.upto fnDiagramsSpec)) fnDiagramsUptoCard

/-- THE SECOND FORM's CARD OF 'laws.FnTables'. -/
def fnTablesUptoCard : Claim7 := { stood := { row := fnTablesUptoRow, standIns := [], harness := (true, "d28253c716cd20c8b9d3be5589734219f479b20fb0fd1b6182495f1f250a6f44"), looks := false }, kinds := [], alts := [], laidByText := true, laidKinds := [.data, .data, .data], laidTests := true, laidLooks := .later }
def FnTablesUptoCardSaid : Prop := Claim7.holds Tryd.pinned (.plain (OpenSpec.upto fnTablesSpec)) fnTablesUptoCard
end Rows
end Go.Proofs.YtlnhpkjioppbiaaDoor
