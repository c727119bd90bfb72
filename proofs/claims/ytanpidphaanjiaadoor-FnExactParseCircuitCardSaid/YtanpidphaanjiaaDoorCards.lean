/-
  DERIVED. GIVEN WITH THE SEED: THE CARDS: each row of YtanpidphaanjiaaDoorRows.lean that lists a variable, with what it lists TIED to the program's text (the seventh form; the later family's looks); each row that meets fmt, with fmt's text TOLD by the authors' own Lean function (tested against real Go, not proved from fmt's source: count such statements apart). THE CARD IS WHAT COUNTS. Prove the row's statement (the work); the ties are given (YtanpidphaanjiaaDoorTie.lean); close each card by the builder's one call (the guide's Derived/Test/ToyasCard.lean, 'card_holds'). Laid BY PROGRAM, IN A SANDBOX (cutbox-door.mjs). By AI agents, Wed Nov 11 2026. No macro, syntax, notation, axiom, sorry.
-/
import Derived.Test.YtanpidphaanjiaaDoorRows
import GoSem.ClaimSeven
namespace Go.Proofs.YtanpidphaanjiaaDoor
namespace Rows

/-- THE TIED CARD OF 'laws.FnExactCircuitText'. -/
def fnExactCircuitTextCard : Claim7 := { stood := { row := fnExactCircuitTextRow, standIns := [], harness := (true, "80ca6d82752fe78b357a51e647e3d6bb13b242d88d9383fa2afd4926b7d411cb"), looks := false }, kinds := [], alts := [], laidByText := true, laidKinds := [.data, .data, .data, .data], laidTests := true, laidLooks := .later }
def FnExactCircuitTextCardSaid : Prop := Claim7.holds Tryd.pinned (.plain (OpenSpec.ofChange fnExactCircuitTextSpec)) fnExactCircuitTextCard

/-- THE TIED CARD OF 'laws.FnExactParseCircuit'. -/
def fnExactParseCircuitCard : Claim7 := { stood := { row := fnExactParseCircuitRow, standIns := [], harness := (true, "80ca6d82752fe78b357a51e647e3d6bb13b242d88d9383fa2afd4926b7d411cb"), looks := false }, kinds := [], alts := [], laidByText := true, laidKinds := [.data, .data, .pinned], laidTests := true, laidLooks := .later }
def FnExactParseCircuitCardSaid : Prop := Claim7.holds Tryd.pinned (.plain (OpenSpec.ofChange fnExactParseCircuitSpec)) fnExactParseCircuitCard

/-- THE SECOND FORM's CARD OF 'laws.FnExactCircuitText'. -/
def fnExactCircuitTextUptoCard : Claim7 := { stood := { row := fnExactCircuitTextUptoRow, standIns := [], harness := (true, "80ca6d82752fe78b357a51e647e3d6bb13b242d88d9383fa2afd4926b7d411cb"), looks := false }, kinds := [], alts := [], laidByText := true, laidKinds := [.data, .data, .data, .data], laidTests := true, laidLooks := .later }
def FnExactCircuitTextUptoCardSaid : Prop := Claim7.holds Tryd.pinned (.plain (OpenSpec.upto fnExactCircuitTextSpec)) fnExactCircuitTextUptoCard

/-- THE SECOND FORM's CARD OF 'laws.FnExactParseCircuit'. -/
def fnExactParseCircuitUptoCard : Claim7 := { stood := { row := fnExactParseCircuitUptoRow, standIns := [], harness := (true, "80ca6d82752fe78b357a51e647e3d6bb13b242d88d9383fa2afd4926b7d411cb"), looks := false }, kinds := [], alts := [], laidByText := true, laidKinds := [.data, .data, .pinned], laidTests := true, laidLooks := .later }
def FnExactParseCircuitUptoCardSaid : Prop := Claim7.holds Tryd.pinned (.plain (OpenSpec.upto fnExactParseCircuitSpec)) fnExactParseCircuitUptoCard
end Rows
end Go.Proofs.YtanpidphaanjiaaDoor
