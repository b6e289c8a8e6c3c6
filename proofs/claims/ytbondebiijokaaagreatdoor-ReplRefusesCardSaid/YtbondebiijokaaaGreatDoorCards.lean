/-
  DERIVED. GIVEN WITH THE SEED: THE CARDS: each row of YtbondebiijokaaaGreatDoorRows.lean that lists a variable, with what it lists TIED to the program's text (the seventh form; the later family's looks); each row that meets fmt, with fmt's text TOLD by the authors' own Lean function (tested against real Go, not proved from fmt's source: count such statements apart). THE CARD IS WHAT COUNTS. Prove the row's statement (the work); the ties are given (YtbondebiijokaaaGreatDoorTie.lean); close each card by the builder's one call (the guide's Derived/Test/ToyasCard.lean, 'card_holds'). Laid BY PROGRAM, IN A SANDBOX (cutbox-door.mjs). By AI agents, Wed Nov 11 2026. No macro, syntax, notation, axiom, sorry.
-/
import Derived.Test.YtbondebiijokaaaGreatDoorRows
import GoSem.ClaimSeven
namespace Go.Proofs.YtbondebiijokaaaGreatDoor
namespace Rows

/-- THE TIED CARD OF 'prefectlaw25.ReplRefuses'. -/
def replRefusesCard : Claim7 := { stood := { row := replRefusesRow, standIns := [], harness := (true, "f113a5a7a3d52a2e9bb528e729d1c4c1ab11128eb942b481922ff978f417979f"), looks := true }, kinds := [], alts := [], laidByText := true, laidKinds := [.data, .data, .data, .data, .pinned], laidTests := true, laidLooks := .later }
def ReplRefusesCardSaid : Prop := Claim7.holds Tryz.pinned (.plain (OpenSpec.ofChange replRefusesSpec)) replRefusesCard

/-- THE SECOND FORM's CARD OF 'prefectlaw25.ReplRefuses'. -/
def replRefusesUptoCard : Claim7 := { stood := { row := replRefusesUptoRow, standIns := [], harness := (true, "f113a5a7a3d52a2e9bb528e729d1c4c1ab11128eb942b481922ff978f417979f"), looks := true }, kinds := [], alts := [], laidByText := true, laidKinds := [.data, .data, .data, .data, .pinned], laidTests := true, laidLooks := .later }
def ReplRefusesUptoCardSaid : Prop := Claim7.holds Tryz.pinned (.plain (OpenSpec.upto replRefusesSpec)) replRefusesUptoCard
end Rows
end Go.Proofs.YtbondebiijokaaaGreatDoor
