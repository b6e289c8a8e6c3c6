/-
  No cell of these rows narrows 'for every input' (looked for: loops, veiled, ifaces, maps, wideKeys, modest, calm, conditions, laid).
  DERIVED. THE GIVEN ROWS OF THIS SEAT. 4 by the template 'for every input the law returns true; each argument reads behind the call as it read before'; 0 by the template 'total and deterministic' (their statements: YtfpgfgpbjadoaaaTotals.lean).
  GIVEN WITH THE SEED: the statements are not yours to turn. If you find one false, say at which input.
  Laid BY PROGRAM, IN A SANDBOX (cutbox-rows.mjs): the forced cells as the released guide's own fill.sh prints them over the translation 599fa2d1bd78794b… (all of the seat's roots in one cut). By AI agents, Wed Nov 11 2026. No macro, syntax, notation, axiom, sorry.
-/
import Derived.Test.YtfpgfgpbjadoaaaChecked
import GoSem.Claim
import GoSem.ClaimJoined
import GoSem.ClaimMapViews
import Derived.JoinedTies
import Derived.KernelRfl
namespace Go.Proofs.Ytfpgfgpbjadoaaa
/- THE CELL 'sum', in the pinned program and in every row, IS THE sha256 OF THE DUMP (.gsa) THAT YtfpgfgpbjadoaaaProg.lean LOADS. Nothing in Lean hashes anything: it is a label: what it is worth is what the hold of that sum in a sandbox is worth. -/
noncomputable def Try.pinned : Pinned := { name := "ytfpgfgpbjadoaaa", sum := "599fa2d1bd78794bbb2238834d8dd9a7a6f5302609508d35e2017bb8bbd2311e", checked := Try.checked }
namespace Rows
def none {H : Type} : Left H := { results := [], args := [] }

/-- 'prefectlaw20.DiskKeeps': WHATEVER THE INPUT: true; the input reads as it did. -/
def diskKeepsSpec : ChangeSpec := { name := "diskKeeps", fn := fun _ => fun
  | [d1, d2, d3] => { results := [.lit (.bool true)], args := [d1, d2, d3] }
  | _ => none }
def diskKeepsRow : OpenClaim := { program := "ytfpgfgpbjadoaaa", sum := "599fa2d1bd78794bbb2238834d8dd9a7a6f5302609508d35e2017bb8bbd2311e", func := "prefect/prefectlaw20.DiskKeeps", spec := "diskKeeps", inPlace := ["maps.clone"], unfollowed := true, recurses := true, apart := false }
def DiskKeepsSaid : Prop := diskKeepsRow.holds Try.pinned (OpenSpec.ofChange diskKeepsSpec)

/-- ITS FALSE NEIGHBOUR: 'it returns false'. Refute it at one input. -/
def diskKeepsWrong : ChangeSpec := { name := "diskKeeps", fn := fun _ => fun
  | [d1, d2, d3] => { results := [.lit (.bool false)], args := [d1, d2, d3] }
  | _ => none }
def DiskKeepsWrongFalsely : Prop := diskKeepsRow.holds Try.pinned (OpenSpec.ofChange diskKeepsWrong)

/-- 'prefectlaw20.DiskBits': WHATEVER THE INPUT: true; the input reads as it did. -/
def diskBitsSpec : ChangeSpec := { name := "diskBits", fn := fun _ => fun
  | [d1, d2, d3] => { results := [.lit (.bool true)], args := [d1, d2, d3] }
  | _ => none }
def diskBitsRow : OpenClaim := { program := "ytfpgfgpbjadoaaa", sum := "599fa2d1bd78794bbb2238834d8dd9a7a6f5302609508d35e2017bb8bbd2311e", func := "prefect/prefectlaw20.DiskBits", spec := "diskBits", inPlace := ["maps.clone"], unfollowed := true, recurses := true, apart := false }
def DiskBitsSaid : Prop := diskBitsRow.holds Try.pinned (OpenSpec.ofChange diskBitsSpec)

/-- ITS FALSE NEIGHBOUR: 'it returns false'. Refute it at one input. -/
def diskBitsWrong : ChangeSpec := { name := "diskBits", fn := fun _ => fun
  | [d1, d2, d3] => { results := [.lit (.bool false)], args := [d1, d2, d3] }
  | _ => none }
def DiskBitsWrongFalsely : Prop := diskBitsRow.holds Try.pinned (OpenSpec.ofChange diskBitsWrong)

/-- 'prefectlaw20.DiskPuts': WHATEVER THE INPUT: true; the input reads as it did. -/
def diskPutsSpec : ChangeSpec := { name := "diskPuts", fn := fun _ => fun
  | [d1, d2, d3, d4] => { results := [.lit (.bool true)], args := [d1, d2, d3, d4] }
  | _ => none }
def diskPutsRow : OpenClaim := { program := "ytfpgfgpbjadoaaa", sum := "599fa2d1bd78794bbb2238834d8dd9a7a6f5302609508d35e2017bb8bbd2311e", func := "prefect/prefectlaw20.DiskPuts", spec := "diskPuts", inPlace := ["maps.clone"], unfollowed := true, recurses := true, apart := false }
def DiskPutsSaid : Prop := diskPutsRow.holds Try.pinned (OpenSpec.ofChange diskPutsSpec)

/-- ITS FALSE NEIGHBOUR: 'it returns false'. Refute it at one input. -/
def diskPutsWrong : ChangeSpec := { name := "diskPuts", fn := fun _ => fun
  | [d1, d2, d3, d4] => { results := [.lit (.bool false)], args := [d1, d2, d3, d4] }
  | _ => none }
def DiskPutsWrongFalsely : Prop := diskPutsRow.holds Try.pinned (OpenSpec.ofChange diskPutsWrong)

/-- 'prefectlaw20.DiskRooms': WHATEVER THE INPUT: true; the input reads as it did. -/
def diskRoomsSpec : ChangeSpec := { name := "diskRooms", fn := fun _ => fun
  | [d1, d2] => { results := [.lit (.bool true)], args := [d1, d2] }
  | _ => none }
def diskRoomsRow : OpenClaim := { program := "ytfpgfgpbjadoaaa", sum := "599fa2d1bd78794bbb2238834d8dd9a7a6f5302609508d35e2017bb8bbd2311e", func := "prefect/prefectlaw20.DiskRooms", spec := "diskRooms", inPlace := ["maps.clone"], unfollowed := true, recurses := true, apart := false }
def DiskRoomsSaid : Prop := diskRoomsRow.holds Try.pinned (OpenSpec.ofChange diskRoomsSpec)

/-- ITS FALSE NEIGHBOUR: 'it returns false'. Refute it at one input. -/
def diskRoomsWrong : ChangeSpec := { name := "diskRooms", fn := fun _ => fun
  | [d1, d2] => { results := [.lit (.bool false)], args := [d1, d2] }
  | _ => none }
def DiskRoomsWrongFalsely : Prop := diskRoomsRow.holds Try.pinned (OpenSpec.ofChange diskRoomsWrong)

/- THE SECOND FORM. 'bulk': how many values and letters a reading holds, each counted each time it is reached (what is shared counts as often as it is met; a slice's spare places count too). A statement '..UptoSaid' is the law's where the arguments, and the package variables that the reading takes, are together of bulk at most 1048576: NARROWER than '..Said'. Prove '..Said' where nothing that the law and all that it calls make is longer than what came in: it says more and counts as full. Else prove '..UptoSaid'. A law counts once. -/
mutual
def uptoBulk {H : Type} : DataW H → Nat
  | .lit (.string bytes) => bytes.length + 1
  | .lit _ => 1
  | .nil => 1
  | .ptr d => uptoBulk d + 1
  | .slice elems spare => uptoBulkAll elems + uptoBulkAll spare + 1
  | .agg parts => uptoBulkAll parts + 1
  | .iface _ d => uptoBulk d + 1
  | .map entries => uptoBulkEntries entries + 1
  | .held _ => 1
def uptoBulkAll {H : Type} : List (DataW H) → Nat
  | [] => 0
  | d :: r => uptoBulk d + uptoBulkAll r
def uptoBulkEntries {H : Type} : List (Lit × DataW H) → Nat
  | [] => 0
  | x :: r => uptoBulkEntry x + uptoBulkEntries r
def uptoBulkEntry {H : Type} : Lit × DataW H → Nat
  | (.string bytes, d) => bytes.length + uptoBulk d + 1
  | (_, d) => uptoBulk d + 1
 end
def uptoSmall : (H : Type) → List (DataW H) → Bool := fun _ ds => decide (uptoBulkAll ds ≤ 1048576)
def OpenSpec.upto (s : _root_.Go.ChangeSpec) : _root_.Go.OpenSpec := { _root_.Go.OpenSpec.ofChange s with cond := some uptoSmall }

/-- 'prefectlaw20.DiskKeeps', WHERE WHAT IT READS IS OF BULK AT MOST 1048576: true; the input reads as it did. -/
def diskKeepsUptoRow : OpenClaim := { program := "ytfpgfgpbjadoaaa", sum := "599fa2d1bd78794bbb2238834d8dd9a7a6f5302609508d35e2017bb8bbd2311e", func := "prefect/prefectlaw20.DiskKeeps", spec := "diskKeeps", inPlace := ["maps.clone"], unfollowed := true, recurses := true, apart := false, narrowed := true }
def DiskKeepsUptoSaid : Prop := diskKeepsUptoRow.holds Try.pinned (OpenSpec.upto diskKeepsSpec)

/-- 'prefectlaw20.DiskBits', WHERE WHAT IT READS IS OF BULK AT MOST 1048576: true; the input reads as it did. -/
def diskBitsUptoRow : OpenClaim := { program := "ytfpgfgpbjadoaaa", sum := "599fa2d1bd78794bbb2238834d8dd9a7a6f5302609508d35e2017bb8bbd2311e", func := "prefect/prefectlaw20.DiskBits", spec := "diskBits", inPlace := ["maps.clone"], unfollowed := true, recurses := true, apart := false, narrowed := true }
def DiskBitsUptoSaid : Prop := diskBitsUptoRow.holds Try.pinned (OpenSpec.upto diskBitsSpec)

/-- 'prefectlaw20.DiskPuts', WHERE WHAT IT READS IS OF BULK AT MOST 1048576: true; the input reads as it did. -/
def diskPutsUptoRow : OpenClaim := { program := "ytfpgfgpbjadoaaa", sum := "599fa2d1bd78794bbb2238834d8dd9a7a6f5302609508d35e2017bb8bbd2311e", func := "prefect/prefectlaw20.DiskPuts", spec := "diskPuts", inPlace := ["maps.clone"], unfollowed := true, recurses := true, apart := false, narrowed := true }
def DiskPutsUptoSaid : Prop := diskPutsUptoRow.holds Try.pinned (OpenSpec.upto diskPutsSpec)

/-- 'prefectlaw20.DiskRooms', WHERE WHAT IT READS IS OF BULK AT MOST 1048576: true; the input reads as it did. -/
def diskRoomsUptoRow : OpenClaim := { program := "ytfpgfgpbjadoaaa", sum := "599fa2d1bd78794bbb2238834d8dd9a7a6f5302609508d35e2017bb8bbd2311e", func := "prefect/prefectlaw20.DiskRooms", spec := "diskRooms", inPlace := ["maps.clone"], unfollowed := true, recurses := true, apart := false, narrowed := true }
def DiskRoomsUptoSaid : Prop := diskRoomsUptoRow.holds Try.pinned (OpenSpec.upto diskRoomsSpec)

end Rows
end Go.Proofs.Ytfpgfgpbjadoaaa
