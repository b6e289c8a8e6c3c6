/-
  NARROWER THAN 'FOR EVERY INPUT', by the rows' own cells (each row's printed sentence says how): FrameCuts: loops.
  DERIVED. THE GIVEN ROWS OF THIS SEAT. 6 by the template 'for every input the law returns true; each argument reads behind the call as it read before'; 0 by the template 'total and deterministic' (their statements: YthcchjhieolflaaTotals.lean).
  GIVEN WITH THE SEED: the statements are not yours to turn. If you find one false, say at which input.
  Laid BY PROGRAM, IN A SANDBOX (cutbox-rows.mjs): the forced cells as the released guide's own fill.sh prints them over the translation e1fc3382d44ddf2f… (all of the seat's roots in one cut). By AI agents, Wed Nov 11 2026. No macro, syntax, notation, axiom, sorry.
-/
import Derived.Test.YthcchjhieolflaaChecked
import GoSem.Claim
import GoSem.ClaimJoined
import GoSem.ClaimMapViews
import Derived.JoinedTies
import Derived.KernelRfl
namespace Go.Proofs.Ythcchjhieolflaa
/- THE CELL 'sum', in the pinned program and in every row, IS THE sha256 OF THE DUMP (.gsa) THAT YthcchjhieolflaaProg.lean LOADS. Nothing in Lean hashes anything: it is a label: what it is worth is what the hold of that sum in a sandbox is worth. -/
noncomputable def Try.pinned : Pinned := { name := "ythcchjhieolflaa", sum := "e1fc3382d44ddf2f7d63d60b41e7ae02d7ebc9067b39739eb1aaf90b9cbafccc", checked := Try.checked }
namespace Rows
def none {H : Type} : Left H := { results := [], args := [] }

/-- 'prefectlaw3.FrameCuts': WHATEVER THE INPUT: true; the input reads as it did. -/
def frameCutsSpec : ChangeSpec := { name := "frameCuts", fn := fun _ => fun
  | [d1, d2] => { results := [.lit (.bool true)], args := [d1, d2] }
  | _ => none }
def frameCutsRow : OpenClaim := { program := "ythcchjhieolflaa", sum := "e1fc3382d44ddf2f7d63d60b41e7ae02d7ebc9067b39739eb1aaf90b9cbafccc", func := "prefect/prefectlaw3.FrameCuts", spec := "frameCuts", inPlace := ["internal/reflectlite.TypeOf"], unfollowed := true, recurses := true, loops := true, apart := false }
def FrameCutsSaid : Prop := frameCutsRow.holds Try.pinned (OpenSpec.ofChange frameCutsSpec)

/-- ITS FALSE NEIGHBOUR: 'it returns false'. Refute it at one input. -/
def frameCutsWrong : ChangeSpec := { name := "frameCuts", fn := fun _ => fun
  | [d1, d2] => { results := [.lit (.bool false)], args := [d1, d2] }
  | _ => none }
def FrameCutsWrongFalsely : Prop := frameCutsRow.holds Try.pinned (OpenSpec.ofChange frameCutsWrong)

/-- 'prefectlaw3.FrameRoom': WHATEVER THE INPUT: true; the input reads as it did. -/
def frameRoomSpec : ChangeSpec := { name := "frameRoom", fn := fun _ => fun
  | [d1, d2] => { results := [.lit (.bool true)], args := [d1, d2] }
  | _ => none }
def frameRoomRow : OpenClaim := { program := "ythcchjhieolflaa", sum := "e1fc3382d44ddf2f7d63d60b41e7ae02d7ebc9067b39739eb1aaf90b9cbafccc", func := "prefect/prefectlaw3.FrameRoom", spec := "frameRoom", inPlace := ["internal/reflectlite.TypeOf"], unfollowed := true, recurses := true, apart := false }
def FrameRoomSaid : Prop := frameRoomRow.holds Try.pinned (OpenSpec.ofChange frameRoomSpec)

/-- ITS FALSE NEIGHBOUR: 'it returns false'. Refute it at one input. -/
def frameRoomWrong : ChangeSpec := { name := "frameRoom", fn := fun _ => fun
  | [d1, d2] => { results := [.lit (.bool false)], args := [d1, d2] }
  | _ => none }
def FrameRoomWrongFalsely : Prop := frameRoomRow.holds Try.pinned (OpenSpec.ofChange frameRoomWrong)

/-- 'prefectlaw3.FramePlays': WHATEVER THE INPUT: true; the input reads as it did. -/
def framePlaysSpec : ChangeSpec := { name := "framePlays", fn := fun _ => fun
  | [d1, d2] => { results := [.lit (.bool true)], args := [d1, d2] }
  | _ => none }
def framePlaysRow : OpenClaim := { program := "ythcchjhieolflaa", sum := "e1fc3382d44ddf2f7d63d60b41e7ae02d7ebc9067b39739eb1aaf90b9cbafccc", func := "prefect/prefectlaw3.FramePlays", spec := "framePlays", inPlace := ["internal/reflectlite.TypeOf"], unfollowed := true, recurses := true, apart := false }
def FramePlaysSaid : Prop := framePlaysRow.holds Try.pinned (OpenSpec.ofChange framePlaysSpec)

/-- ITS FALSE NEIGHBOUR: 'it returns false'. Refute it at one input. -/
def framePlaysWrong : ChangeSpec := { name := "framePlays", fn := fun _ => fun
  | [d1, d2] => { results := [.lit (.bool false)], args := [d1, d2] }
  | _ => none }
def FramePlaysWrongFalsely : Prop := framePlaysRow.holds Try.pinned (OpenSpec.ofChange framePlaysWrong)

/-- 'prefectlaw11.VectorTells': WHATEVER THE INPUT: true; the input reads as it did. -/
def vectorTellsSpec : ChangeSpec := { name := "vectorTells", fn := fun _ => fun
  | [d1, d2, d3, d4] => { results := [.lit (.bool true)], args := [d1, d2, d3, d4] }
  | _ => none }
def vectorTellsRow : OpenClaim := { program := "ythcchjhieolflaa", sum := "e1fc3382d44ddf2f7d63d60b41e7ae02d7ebc9067b39739eb1aaf90b9cbafccc", func := "prefect/prefectlaw11.VectorTells", spec := "vectorTells", unfollowed := true, recurses := true, apart := false }
def VectorTellsSaid : Prop := vectorTellsRow.holds Try.pinned (OpenSpec.ofChange vectorTellsSpec)

/-- ITS FALSE NEIGHBOUR: 'it returns false'. Refute it at one input. -/
def vectorTellsWrong : ChangeSpec := { name := "vectorTells", fn := fun _ => fun
  | [d1, d2, d3, d4] => { results := [.lit (.bool false)], args := [d1, d2, d3, d4] }
  | _ => none }
def VectorTellsWrongFalsely : Prop := vectorTellsRow.holds Try.pinned (OpenSpec.ofChange vectorTellsWrong)

/-- 'prefectlaw11.VectorLattice': WHATEVER THE INPUT: true; the input reads as it did. -/
def vectorLatticeSpec : ChangeSpec := { name := "vectorLattice", fn := fun _ => fun
  | [d1, d2, d3, d4] => { results := [.lit (.bool true)], args := [d1, d2, d3, d4] }
  | _ => none }
def vectorLatticeRow : OpenClaim := { program := "ythcchjhieolflaa", sum := "e1fc3382d44ddf2f7d63d60b41e7ae02d7ebc9067b39739eb1aaf90b9cbafccc", func := "prefect/prefectlaw11.VectorLattice", spec := "vectorLattice", unfollowed := true, recurses := true, apart := false }
def VectorLatticeSaid : Prop := vectorLatticeRow.holds Try.pinned (OpenSpec.ofChange vectorLatticeSpec)

/-- ITS FALSE NEIGHBOUR: 'it returns false'. Refute it at one input. -/
def vectorLatticeWrong : ChangeSpec := { name := "vectorLattice", fn := fun _ => fun
  | [d1, d2, d3, d4] => { results := [.lit (.bool false)], args := [d1, d2, d3, d4] }
  | _ => none }
def VectorLatticeWrongFalsely : Prop := vectorLatticeRow.holds Try.pinned (OpenSpec.ofChange vectorLatticeWrong)

/-- 'prefectlaw11.VectorRaises': WHATEVER THE INPUT: true; the input reads as it did. -/
def vectorRaisesSpec : ChangeSpec := { name := "vectorRaises", fn := fun _ => fun
  | [d1, d2] => { results := [.lit (.bool true)], args := [d1, d2] }
  | _ => none }
def vectorRaisesRow : OpenClaim := { program := "ythcchjhieolflaa", sum := "e1fc3382d44ddf2f7d63d60b41e7ae02d7ebc9067b39739eb1aaf90b9cbafccc", func := "prefect/prefectlaw11.VectorRaises", spec := "vectorRaises", unfollowed := true, recurses := true, apart := false }
def VectorRaisesSaid : Prop := vectorRaisesRow.holds Try.pinned (OpenSpec.ofChange vectorRaisesSpec)

/-- ITS FALSE NEIGHBOUR: 'it returns false'. Refute it at one input. -/
def vectorRaisesWrong : ChangeSpec := { name := "vectorRaises", fn := fun _ => fun
  | [d1, d2] => { results := [.lit (.bool false)], args := [d1, d2] }
  | _ => none }
def VectorRaisesWrongFalsely : Prop := vectorRaisesRow.holds Try.pinned (OpenSpec.ofChange vectorRaisesWrong)

/- THE SECOND FORM. 'bulk': how many values and letters a reading holds, each counted each time it is reached (what is shared counts as often as it is met; a slice's spare places count too). A statement '..UptoSaid' is the law's where the arguments, and the package variables that the reading takes, are together of bulk at most 1048576: NARROWER than '..Said'. Prove '..Said' where nothing that the law and all that it calls make is longer than what came in: it says more and counts as full. Else prove '..UptoSaid'. A law counts once. -/
mutual
def uptoBulk {H : Type} : DataW H → Nat
  | .lit (.string bytes) => bytes.length + 1
  | .lit _ => 1
  | .nil => 1
  | .ptr d => uptoBulk d + 1
  | .slice elems spare => uptoBulkAll elems + uptoBulkAll spare + 1
  | .agg parts => uptoBulkAll parts + 1
  | .iface _ d => uptoBulk d + 1
  | .map entries => uptoBulkEntries entries + 1
  | .held _ => 1
def uptoBulkAll {H : Type} : List (DataW H) → Nat
  | [] => 0
  | d :: r => uptoBulk d + uptoBulkAll r
def uptoBulkEntries {H : Type} : List (Lit × DataW H) → Nat
  | [] => 0
  | x :: r => uptoBulkEntry x + uptoBulkEntries r
def uptoBulkEntry {H : Type} : Lit × DataW H → Nat
  | (.string bytes, d) => bytes.length + uptoBulk d + 1
  | (_, d) => uptoBulk d + 1
 end
def uptoSmall : (H : Type) → List (DataW H) → Bool := fun _ ds => decide (uptoBulkAll ds ≤ 1048576)
def OpenSpec.upto (s : _root_.Go.ChangeSpec) : _root_.Go.OpenSpec := { _root_.Go.OpenSpec.ofChange s with cond := some uptoSmall }

/-- 'prefectlaw3.FrameCuts', WHERE WHAT IT READS IS OF BULK AT MOST 1048576: true; the input reads as it did. -/
def frameCutsUptoRow : OpenClaim := { program := "ythcchjhieolflaa", sum := "e1fc3382d44ddf2f7d63d60b41e7ae02d7ebc9067b39739eb1aaf90b9cbafccc", func := "prefect/prefectlaw3.FrameCuts", spec := "frameCuts", inPlace := ["internal/reflectlite.TypeOf"], unfollowed := true, recurses := true, loops := true, apart := false, narrowed := true }
def FrameCutsUptoSaid : Prop := frameCutsUptoRow.holds Try.pinned (OpenSpec.upto frameCutsSpec)

/-- 'prefectlaw3.FrameRoom', WHERE WHAT IT READS IS OF BULK AT MOST 1048576: true; the input reads as it did. -/
def frameRoomUptoRow : OpenClaim := { program := "ythcchjhieolflaa", sum := "e1fc3382d44ddf2f7d63d60b41e7ae02d7ebc9067b39739eb1aaf90b9cbafccc", func := "prefect/prefectlaw3.FrameRoom", spec := "frameRoom", inPlace := ["internal/reflectlite.TypeOf"], unfollowed := true, recurses := true, apart := false, narrowed := true }
def FrameRoomUptoSaid : Prop := frameRoomUptoRow.holds Try.pinned (OpenSpec.upto frameRoomSpec)

/-- 'prefectlaw3.FramePlays', WHERE WHAT IT READS IS OF BULK AT MOST 1048576: true; the input reads as it did. -/
def framePlaysUptoRow : OpenClaim := { program := "ythcchjhieolflaa", sum := "e1fc3382d44ddf2f7d63d60b41e7ae02d7ebc9067b39739eb1aaf90b9cbafccc", func := "prefect/prefectlaw3.FramePlays", spec := "framePlays", inPlace := ["internal/reflectlite.TypeOf"], unfollowed := true, recurses := true, apart := false, narrowed := true }
def FramePlaysUptoSaid : Prop := framePlaysUptoRow.holds Try.pinned (OpenSpec.upto framePlaysSpec)

/-- 'prefectlaw11.VectorTells', WHERE WHAT IT READS IS OF BULK AT MOST 1048576: true; the input reads as it did. -/
def vectorTellsUptoRow : OpenClaim := { program := "ythcchjhieolflaa", sum := "e1fc3382d44ddf2f7d63d60b41e7ae02d7ebc9067b39739eb1aaf90b9cbafccc", func := "prefect/prefectlaw11.VectorTells", spec := "vectorTells", unfollowed := true, recurses := true, apart := false, narrowed := true }
def VectorTellsUptoSaid : Prop := vectorTellsUptoRow.holds Try.pinned (OpenSpec.upto vectorTellsSpec)

/-- 'prefectlaw11.VectorLattice', WHERE WHAT IT READS IS OF BULK AT MOST 1048576: true; the input reads as it did. -/
def vectorLatticeUptoRow : OpenClaim := { program := "ythcchjhieolflaa", sum := "e1fc3382d44ddf2f7d63d60b41e7ae02d7ebc9067b39739eb1aaf90b9cbafccc", func := "prefect/prefectlaw11.VectorLattice", spec := "vectorLattice", unfollowed := true, recurses := true, apart := false, narrowed := true }
def VectorLatticeUptoSaid : Prop := vectorLatticeUptoRow.holds Try.pinned (OpenSpec.upto vectorLatticeSpec)

/-- 'prefectlaw11.VectorRaises', WHERE WHAT IT READS IS OF BULK AT MOST 1048576: true; the input reads as it did. -/
def vectorRaisesUptoRow : OpenClaim := { program := "ythcchjhieolflaa", sum := "e1fc3382d44ddf2f7d63d60b41e7ae02d7ebc9067b39739eb1aaf90b9cbafccc", func := "prefect/prefectlaw11.VectorRaises", spec := "vectorRaises", unfollowed := true, recurses := true, apart := false, narrowed := true }
def VectorRaisesUptoSaid : Prop := vectorRaisesUptoRow.holds Try.pinned (OpenSpec.upto vectorRaisesSpec)

end Rows
end Go.Proofs.Ythcchjhieolflaa
