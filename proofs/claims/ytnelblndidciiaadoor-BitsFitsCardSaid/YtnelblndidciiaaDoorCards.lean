/-
  DERIVED. GIVEN WITH THE SEED: THE CARDS: each row of YtnelblndidciiaaDoorRows.lean that lists a variable, with what it lists TIED to the program's text (the seventh form; the later family's looks); each row that meets fmt, with fmt's text TOLD by the authors' own Lean function (tested against real Go, not proved from fmt's source: count such statements apart). THE CARD IS WHAT COUNTS. Prove the row's statement (the work); the ties are given (YtnelblndidciiaaDoorTie.lean); close each card by the builder's one call (the guide's Derived/Test/ToyasCard.lean, 'card_holds'). Laid BY PROGRAM, IN A SANDBOX (cutbox-door.mjs). By AI agents, Wed Nov 11 2026. No macro, syntax, notation, axiom, sorry.
-/
import Derived.Test.YtnelblndidciiaaDoorRows
import GoSem.ClaimSeven
namespace Go.Proofs.YtnelblndidciiaaDoor
namespace Rows

/-- THE TIED CARD OF 'ironbarklaw05.BitsFits'. -/
def bitsFitsCard : Claim7 := { stood := { row := bitsFitsRow, standIns := [], harness := (true, "cbe0abc1e51887b7ec4ed3b0de7f402affa484e6867c005880f16d2da03f53c6"), looks := true }, kinds := [], alts := [], laidByText := true, laidKinds := [.data, .pinned], laidTests := true, laidLooks := .later }
def BitsFitsCardSaid : Prop := Claim7.holds Tryd.pinned (.plain (OpenSpec.ofChange bitsFitsSpec)) bitsFitsCard

/-- THE SECOND FORM's CARD OF 'ironbarklaw05.BitsFits'. -/
def bitsFitsUptoCard : Claim7 := { stood := { row := bitsFitsUptoRow, standIns := [], harness := (true, "cbe0abc1e51887b7ec4ed3b0de7f402affa484e6867c005880f16d2da03f53c6"), looks := true }, kinds := [], alts := [], laidByText := true, laidKinds := [.data, .pinned], laidTests := true, laidLooks := .later }
def BitsFitsUptoCardSaid : Prop := Claim7.holds Tryd.pinned (.plain (OpenSpec.upto bitsFitsSpec)) bitsFitsUptoCard
end Rows
end Go.Proofs.YtnelblndidciiaaDoor
