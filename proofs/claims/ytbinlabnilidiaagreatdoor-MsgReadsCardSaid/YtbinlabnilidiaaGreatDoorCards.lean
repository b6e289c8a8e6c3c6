/-
  DERIVED. GIVEN WITH THE SEED: THE CARDS: each row of YtbinlabnilidiaaGreatDoorRows.lean that lists a variable, with what it lists TIED to the program's text (the seventh form; the later family's looks); each row that meets fmt, with fmt's text TOLD by the authors' own Lean function (tested against real Go, not proved from fmt's source: count such statements apart). THE CARD IS WHAT COUNTS. Prove the row's statement (the work); the ties are given (YtbinlabnilidiaaGreatDoorTie.lean); close each card by the builder's one call (the guide's Derived/Test/ToyasCard.lean, 'card_holds'). Laid BY PROGRAM, IN A SANDBOX (cutbox-door.mjs). By AI agents, Wed Nov 11 2026. No macro, syntax, notation, axiom, sorry.
-/
import Derived.Test.YtbinlabnilidiaaGreatDoorRows
import GoSem.ClaimSeven
namespace Go.Proofs.YtbinlabnilidiaaGreatDoor
namespace Rows

/-- THE TIED CARD OF 'prefectlaw9.MsgTells'. -/
def msgTellsCard : Claim7 := { stood := { row := msgTellsRow, standIns := [], harness := (true, "ea8f93dd302890c2808d41e69142bcab253606acc3fe6da21e45912e0344a552"), looks := true }, kinds := [], alts := [], laidByText := true, laidKinds := [.handle], laidTests := true, laidLooks := .later }
def MsgTellsCardSaid : Prop := Claim7.holds Tryz.pinned (.plain (OpenSpec.ofChange msgTellsSpec)) msgTellsCard

/-- THE TIED CARD OF 'prefectlaw9.MsgBack'. -/
def msgBackCard : Claim7 := { stood := { row := msgBackRow, standIns := [], harness := (true, "ea8f93dd302890c2808d41e69142bcab253606acc3fe6da21e45912e0344a552"), looks := true }, kinds := [], alts := [], laidByText := true, laidKinds := [.handle], laidTests := true, laidLooks := .later }
def MsgBackCardSaid : Prop := Claim7.holds Tryz.pinned (.plain (OpenSpec.ofChange msgBackSpec)) msgBackCard

/-- THE TIED CARD OF 'prefectlaw9.MsgReads'. -/
def msgReadsCard : Claim7 := { stood := { row := msgReadsRow, standIns := [], harness := (true, "ea8f93dd302890c2808d41e69142bcab253606acc3fe6da21e45912e0344a552"), looks := true }, kinds := [], alts := [], laidByText := true, laidKinds := [.handle], laidTests := true, laidLooks := .later }
def MsgReadsCardSaid : Prop := Claim7.holds Tryz.pinned (.plain (OpenSpec.ofChange msgReadsSpec)) msgReadsCard

/-- THE TIED CARD OF 'prefectlaw9.MsgSpoils'. -/
def msgSpoilsCard : Claim7 := { stood := { row := msgSpoilsRow, standIns := [], harness := (true, "ea8f93dd302890c2808d41e69142bcab253606acc3fe6da21e45912e0344a552"), looks := true }, kinds := [], alts := [], laidByText := true, laidKinds := [.handle], laidTests := true, laidLooks := .later }
def MsgSpoilsCardSaid : Prop := Claim7.holds Tryz.pinned (.plain (OpenSpec.ofChange msgSpoilsSpec)) msgSpoilsCard

/-- THE SECOND FORM's CARD OF 'prefectlaw9.MsgTells'. -/
def msgTellsUptoCard : Claim7 := { stood := { row := msgTellsUptoRow, standIns := [], harness := (true, "ea8f93dd302890c2808d41e69142bcab253606acc3fe6da21e45912e0344a552"), looks := true }, kinds := [], alts := [], laidByText := true, laidKinds := [.handle], laidTests := true, laidLooks := .later }
def MsgTellsUptoCardSaid : Prop := Claim7.holds Tryz.pinned (.plain (OpenSpec.upto msgTellsSpec)) msgTellsUptoCard

/-- THE SECOND FORM's CARD OF 'prefectlaw9.MsgBack'. -/
def msgBackUptoCard : Claim7 := { stood := { row := msgBackUptoRow, standIns := [], harness := (true, "ea8f93dd302890c2808d41e69142bcab253606acc3fe6da21e45912e0344a552"), looks := true }, kinds := [], alts := [], laidByText := true, laidKinds := [.handle], laidTests := true, laidLooks := .later }
def MsgBackUptoCardSaid : Prop := Claim7.holds Tryz.pinned (.plain (OpenSpec.upto msgBackSpec)) msgBackUptoCard

/-- THE SECOND FORM's CARD OF 'prefectlaw9.MsgReads'. -/
def msgReadsUptoCard : Claim7 := { stood := { row := msgReadsUptoRow, standIns := [], harness := (true, "ea8f93dd302890c2808d41e69142bcab253606acc3fe6da21e45912e0344a552"), looks := true }, kinds := [], alts := [], laidByText := true, laidKinds := [.handle], laidTests := true, laidLooks := .later }
def MsgReadsUptoCardSaid : Prop := Claim7.holds Tryz.pinned (.plain (OpenSpec.upto msgReadsSpec)) msgReadsUptoCard

/-- THE SECOND FORM's CARD OF 'prefectlaw9.MsgSpoils'. -/
def msgSpoilsUptoCard : Claim7 := { stood := { row := msgSpoilsUptoRow, standIns := [], harness := (true, "ea8f93dd302890c2808d41e69142bcab253606acc3fe6da21e45912e0344a552"), looks := true }, kinds := [], alts := [], laidByText := true, laidKinds := [.handle], laidTests := true, laidLooks := .later }
def MsgSpoilsUptoCardSaid : Prop := Claim7.holds Tryz.pinned (.plain (OpenSpec.upto msgSpoilsSpec)) msgSpoilsUptoCard
end Rows
end Go.Proofs.YtbinlabnilidiaaGreatDoor
