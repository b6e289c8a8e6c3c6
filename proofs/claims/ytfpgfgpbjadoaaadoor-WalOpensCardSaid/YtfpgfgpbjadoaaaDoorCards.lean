/-
  DERIVED. GIVEN WITH THE SEED: THE CARDS: each row of YtfpgfgpbjadoaaaDoorRows.lean that lists a variable, with what it lists TIED to the program's text (the seventh form; the later family's looks); each row that meets fmt, with fmt's text TOLD by the authors' own Lean function (tested against real Go, not proved from fmt's source: count such statements apart). THE CARD IS WHAT COUNTS. Prove the row's statement (the work); the ties are given (YtfpgfgpbjadoaaaDoorTie.lean); close each card by the builder's one call (the guide's Derived/Test/ToyasCard.lean, 'card_holds'). Laid BY PROGRAM, IN A SANDBOX (cutbox-door.mjs). By AI agents, Wed Nov 11 2026. No macro, syntax, notation, axiom, sorry.
-/
import Derived.Test.YtfpgfgpbjadoaaaDoorRows
import GoSem.ClaimSeven
namespace Go.Proofs.YtfpgfgpbjadoaaaDoor
namespace Rows

/-- THE TIED CARD OF 'prefectlaw21.WalTells'. -/
def walTellsCard : Claim7 := { stood := { row := walTellsRow, standIns := [], harness := (true, "2de8d0c394b3a57cbe66894c6bf5c1fd82f0ff31472573f25567a0b1c6ed334f"), looks := true }, kinds := [], alts := [], laidByText := true, laidKinds := [.handle], laidTests := true, laidLooks := .later }
def WalTellsCardSaid : Prop := Claim7.holds Tryd.pinned (.plain (OpenSpec.ofChange walTellsSpec)) walTellsCard

/-- THE TIED CARD OF 'prefectlaw21.WalScans'. -/
def walScansCard : Claim7 := { stood := { row := walScansRow, standIns := [], harness := (true, "2de8d0c394b3a57cbe66894c6bf5c1fd82f0ff31472573f25567a0b1c6ed334f"), looks := true }, kinds := [], alts := [], laidByText := true, laidKinds := [.handle], laidTests := true, laidLooks := .later }
def WalScansCardSaid : Prop := Claim7.holds Tryd.pinned (.plain (OpenSpec.ofChange walScansSpec)) walScansCard

/-- THE TIED CARD OF 'prefectlaw21.WalOpens'. -/
def walOpensCard : Claim7 := { stood := { row := walOpensRow, standIns := [], harness := (true, "2de8d0c394b3a57cbe66894c6bf5c1fd82f0ff31472573f25567a0b1c6ed334f"), looks := true }, kinds := [], alts := [], laidByText := true, laidKinds := [.handle], laidTests := true, laidLooks := .later }
def WalOpensCardSaid : Prop := Claim7.holds Tryd.pinned (.plain (OpenSpec.ofChange walOpensSpec)) walOpensCard

/-- THE TIED CARD OF 'prefectlaw21.WalRenews'. -/
def walRenewsCard : Claim7 := { stood := { row := walRenewsRow, standIns := [], harness := (true, "2de8d0c394b3a57cbe66894c6bf5c1fd82f0ff31472573f25567a0b1c6ed334f"), looks := true }, kinds := [], alts := [], laidByText := true, laidKinds := [.handle], laidTests := true, laidLooks := .later }
def WalRenewsCardSaid : Prop := Claim7.holds Tryd.pinned (.plain (OpenSpec.ofChange walRenewsSpec)) walRenewsCard

/-- THE SECOND FORM's CARD OF 'prefectlaw21.WalTells'. -/
def walTellsUptoCard : Claim7 := { stood := { row := walTellsUptoRow, standIns := [], harness := (true, "2de8d0c394b3a57cbe66894c6bf5c1fd82f0ff31472573f25567a0b1c6ed334f"), looks := true }, kinds := [], alts := [], laidByText := true, laidKinds := [.handle], laidTests := true, laidLooks := .later }
def WalTellsUptoCardSaid : Prop := Claim7.holds Tryd.pinned (.plain (OpenSpec.upto walTellsSpec)) walTellsUptoCard

/-- THE SECOND FORM's CARD OF 'prefectlaw21.WalScans'. -/
def walScansUptoCard : Claim7 := { stood := { row := walScansUptoRow, standIns := [], harness := (true, "2de8d0c394b3a57cbe66894c6bf5c1fd82f0ff31472573f25567a0b1c6ed334f"), looks := true }, kinds := [], alts := [], laidByText := true, laidKinds := [.handle], laidTests := true, laidLooks := .later }
def WalScansUptoCardSaid : Prop := Claim7.holds Tryd.pinned (.plain (OpenSpec.upto walScansSpec)) walScansUptoCard

/-- THE SECOND FORM's CARD OF 'prefectlaw21.WalOpens'. -/
def walOpensUptoCard : Claim7 := { stood := { row := walOpensUptoRow, standIns := [], harness := (true, "2de8d0c394b3a57cbe66894c6bf5c1fd82f0ff31472573f25567a0b1c6ed334f"), looks := true }, kinds := [], alts := [], laidByText := true, laidKinds := [.handle], laidTests := true, laidLooks := .later }
def WalOpensUptoCardSaid : Prop := Claim7.holds Tryd.pinned (.plain (OpenSpec.upto walOpensSpec)) walOpensUptoCard

/-- THE SECOND FORM's CARD OF 'prefectlaw21.WalRenews'. -/
def walRenewsUptoCard : Claim7 := { stood := { row := walRenewsUptoRow, standIns := [], harness := (true, "2de8d0c394b3a57cbe66894c6bf5c1fd82f0ff31472573f25567a0b1c6ed334f"), looks := true }, kinds := [], alts := [], laidByText := true, laidKinds := [.handle], laidTests := true, laidLooks := .later }
def WalRenewsUptoCardSaid : Prop := Claim7.holds Tryd.pinned (.plain (OpenSpec.upto walRenewsSpec)) walRenewsUptoCard
end Rows
end Go.Proofs.YtfpgfgpbjadoaaaDoor
