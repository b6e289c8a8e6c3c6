/-
  DERIVED. GIVEN WITH THE SEED: THE CARDS: each row of YtbinlabnilidiaaDoorRows.lean that lists a variable, with what it lists TIED to the program's text (the seventh form; the later family's looks); each row that meets fmt, with fmt's text TOLD by the authors' own Lean function (tested against real Go, not proved from fmt's source: count such statements apart). THE CARD IS WHAT COUNTS. Prove the row's statement (the work); the ties are given (YtbinlabnilidiaaDoorTie.lean); close each card by the builder's one call (the guide's Derived/Test/ToyasCard.lean, 'card_holds'). Laid BY PROGRAM, IN A SANDBOX (cutbox-door.mjs). By AI agents, Wed Nov 11 2026. No macro, syntax, notation, axiom, sorry.
-/
import Derived.Test.YtbinlabnilidiaaDoorRows
import GoSem.ClaimSeven
namespace Go.Proofs.YtbinlabnilidiaaDoor
namespace Rows

/-- THE TIED CARD OF 'prefectlaw9.MsgResults'. -/
def msgResultsCard : Claim7 := { stood := { row := msgResultsRow, standIns := [], harness := (true, "c3b961ec8552f18a48273351511b5e8d909f38a71a3944f3257f6429615ae96e"), looks := true }, kinds := [], alts := [], laidByText := true, laidKinds := [.handle], laidTests := true, laidLooks := .later }
def MsgResultsCardSaid : Prop := Claim7.holds Tryd.pinned (.plain (OpenSpec.ofChange msgResultsSpec)) msgResultsCard

/-- THE TIED CARD OF 'prefectlaw9.MsgSearches'. -/
def msgSearchesCard : Claim7 := { stood := { row := msgSearchesRow, standIns := [], harness := (true, "c3b961ec8552f18a48273351511b5e8d909f38a71a3944f3257f6429615ae96e"), looks := true }, kinds := [], alts := [], laidByText := true, laidKinds := [.handle], laidTests := true, laidLooks := .later }
def MsgSearchesCardSaid : Prop := Claim7.holds Tryd.pinned (.plain (OpenSpec.ofChange msgSearchesSpec)) msgSearchesCard

/-- THE SECOND FORM's CARD OF 'prefectlaw9.MsgResults'. -/
def msgResultsUptoCard : Claim7 := { stood := { row := msgResultsUptoRow, standIns := [], harness := (true, "c3b961ec8552f18a48273351511b5e8d909f38a71a3944f3257f6429615ae96e"), looks := true }, kinds := [], alts := [], laidByText := true, laidKinds := [.handle], laidTests := true, laidLooks := .later }
def MsgResultsUptoCardSaid : Prop := Claim7.holds Tryd.pinned (.plain (OpenSpec.upto msgResultsSpec)) msgResultsUptoCard

/-- THE SECOND FORM's CARD OF 'prefectlaw9.MsgSearches'. -/
def msgSearchesUptoCard : Claim7 := { stood := { row := msgSearchesUptoRow, standIns := [], harness := (true, "c3b961ec8552f18a48273351511b5e8d909f38a71a3944f3257f6429615ae96e"), looks := true }, kinds := [], alts := [], laidByText := true, laidKinds := [.handle], laidTests := true, laidLooks := .later }
def MsgSearchesUptoCardSaid : Prop := Claim7.holds Tryd.pinned (.plain (OpenSpec.upto msgSearchesSpec)) msgSearchesUptoCard
end Rows
end Go.Proofs.YtbinlabnilidiaaDoor
