/-
  NARROWER THAN 'FOR EVERY INPUT', by the rows' own cells (each row's printed sentence says how): FilterTells: loops · FilterBack: loops.
  DERIVED. THE GIVEN ROWS OF THIS SEAT. 5 by the template 'for every input the law returns true; each argument reads behind the call as it read before'; 0 by the template 'total and deterministic' (their statements: YthkjepoaddfoiaaTotals.lean).
  GIVEN WITH THE SEED: the statements are not yours to turn. If you find one false, say at which input.
  Laid BY PROGRAM, IN A SANDBOX (cutbox-rows.mjs): the forced cells as the released guide's own fill.sh prints them over the translation c52ba7f6fa7846e2… (all of the seat's roots in one cut). By AI agents, Wed Nov 11 2026. No macro, syntax, notation, axiom, sorry.
-/
import Derived.Test.YthkjepoaddfoiaaChecked
import GoSem.Claim
import GoSem.ClaimJoined
import GoSem.ClaimMapViews
import Derived.JoinedTies
import Derived.KernelRfl
namespace Go.Proofs.Ythkjepoaddfoiaa
/- THE CELL 'sum', in the pinned program and in every row, IS THE sha256 OF THE DUMP (.gsa) THAT YthkjepoaddfoiaaProg.lean LOADS. Nothing in Lean hashes anything: it is a label: what it is worth is what the hold of that sum in a sandbox is worth. -/
noncomputable def Try.pinned : Pinned := { name := "ythkjepoaddfoiaa", sum := "c52ba7f6fa7846e2952007536be0c1e694d82b995e7bf14fb4102a37e59855db", checked := Try.checked }
namespace Rows
def none {H : Type} : Left H := { results := [], args := [] }

/-- 'prefectlaw7.FilterTells': WHATEVER THE INPUT: true; the input reads as it did. -/
def filterTellsSpec : ChangeSpec := { name := "filterTells", fn := fun _ => fun
  | [d1, d2] => { results := [.lit (.bool true)], args := [d1, d2] }
  | _ => none }
def filterTellsRow : OpenClaim := { program := "ythkjepoaddfoiaa", sum := "c52ba7f6fa7846e2952007536be0c1e694d82b995e7bf14fb4102a37e59855db", func := "prefect/prefectlaw7.FilterTells", spec := "filterTells", inPlace := ["internal/bytealg.IndexByteString", "internal/abi.NoEscape", "internal/bytealg.MakeNoZero"], unfollowed := true, recurses := true, loops := true, apart := false }
def FilterTellsSaid : Prop := filterTellsRow.holds Try.pinned (OpenSpec.ofChange filterTellsSpec)

/-- ITS FALSE NEIGHBOUR: 'it returns false'. Refute it at one input. -/
def filterTellsWrong : ChangeSpec := { name := "filterTells", fn := fun _ => fun
  | [d1, d2] => { results := [.lit (.bool false)], args := [d1, d2] }
  | _ => none }
def FilterTellsWrongFalsely : Prop := filterTellsRow.holds Try.pinned (OpenSpec.ofChange filterTellsWrong)

/-- 'prefectlaw7.FilterBack': WHATEVER THE INPUT: true; the input reads as it did. -/
def filterBackSpec : ChangeSpec := { name := "filterBack", fn := fun _ => fun
  | [d1, d2, d3] => { results := [.lit (.bool true)], args := [d1, d2, d3] }
  | _ => none }
def filterBackRow : OpenClaim := { program := "ythkjepoaddfoiaa", sum := "c52ba7f6fa7846e2952007536be0c1e694d82b995e7bf14fb4102a37e59855db", func := "prefect/prefectlaw7.FilterBack", spec := "filterBack", inPlace := ["internal/bytealg.IndexByteString", "internal/abi.NoEscape", "internal/bytealg.MakeNoZero"], unfollowed := true, recurses := true, loops := true, apart := false }
def FilterBackSaid : Prop := filterBackRow.holds Try.pinned (OpenSpec.ofChange filterBackSpec)

/-- ITS FALSE NEIGHBOUR: 'it returns false'. Refute it at one input. -/
def filterBackWrong : ChangeSpec := { name := "filterBack", fn := fun _ => fun
  | [d1, d2, d3] => { results := [.lit (.bool false)], args := [d1, d2, d3] }
  | _ => none }
def FilterBackWrongFalsely : Prop := filterBackRow.holds Try.pinned (OpenSpec.ofChange filterBackWrong)

/-- 'prefectlaw7.FilterReads': WHATEVER THE INPUT: true; the input reads as it did. -/
def filterReadsSpec : ChangeSpec := { name := "filterReads", fn := fun _ => fun
  | [d] => { results := [.lit (.bool true)], args := [d] }
  | _ => none }
def filterReadsRow : OpenClaim := { program := "ythkjepoaddfoiaa", sum := "c52ba7f6fa7846e2952007536be0c1e694d82b995e7bf14fb4102a37e59855db", func := "prefect/prefectlaw7.FilterReads", spec := "filterReads", inPlace := ["internal/bytealg.IndexByteString", "internal/abi.NoEscape", "internal/bytealg.MakeNoZero"], unfollowed := true, recurses := true, apart := false }
def FilterReadsSaid : Prop := filterReadsRow.holds Try.pinned (OpenSpec.ofChange filterReadsSpec)

/-- ITS FALSE NEIGHBOUR: 'it returns false'. Refute it at one input. -/
def filterReadsWrong : ChangeSpec := { name := "filterReads", fn := fun _ => fun
  | [d] => { results := [.lit (.bool false)], args := [d] }
  | _ => none }
def FilterReadsWrongFalsely : Prop := filterReadsRow.holds Try.pinned (OpenSpec.ofChange filterReadsWrong)

/-- 'prefectlaw7.FilterNests': WHATEVER THE INPUT: true; the input reads as it did. -/
def filterNestsSpec : ChangeSpec := { name := "filterNests", fn := fun _ => fun
  | [d1, d2] => { results := [.lit (.bool true)], args := [d1, d2] }
  | _ => none }
def filterNestsRow : OpenClaim := { program := "ythkjepoaddfoiaa", sum := "c52ba7f6fa7846e2952007536be0c1e694d82b995e7bf14fb4102a37e59855db", func := "prefect/prefectlaw7.FilterNests", spec := "filterNests", inPlace := ["internal/bytealg.IndexByteString", "internal/abi.NoEscape", "internal/bytealg.MakeNoZero"], unfollowed := true, recurses := true, apart := false }
def FilterNestsSaid : Prop := filterNestsRow.holds Try.pinned (OpenSpec.ofChange filterNestsSpec)

/-- ITS FALSE NEIGHBOUR: 'it returns false'. Refute it at one input. -/
def filterNestsWrong : ChangeSpec := { name := "filterNests", fn := fun _ => fun
  | [d1, d2] => { results := [.lit (.bool false)], args := [d1, d2] }
  | _ => none }
def FilterNestsWrongFalsely : Prop := filterNestsRow.holds Try.pinned (OpenSpec.ofChange filterNestsWrong)

/-- 'prefectlaw7.FilterBytes': WHATEVER THE INPUT: true; the input reads as it did. -/
def filterBytesSpec : ChangeSpec := { name := "filterBytes", fn := fun _ => fun
  | [d1, d2, d3] => { results := [.lit (.bool true)], args := [d1, d2, d3] }
  | _ => none }
def filterBytesRow : OpenClaim := { program := "ythkjepoaddfoiaa", sum := "c52ba7f6fa7846e2952007536be0c1e694d82b995e7bf14fb4102a37e59855db", func := "prefect/prefectlaw7.FilterBytes", spec := "filterBytes", inPlace := ["internal/bytealg.IndexByteString", "internal/abi.NoEscape", "internal/bytealg.MakeNoZero"], unfollowed := true, recurses := true, apart := false }
def FilterBytesSaid : Prop := filterBytesRow.holds Try.pinned (OpenSpec.ofChange filterBytesSpec)

/-- ITS FALSE NEIGHBOUR: 'it returns false'. Refute it at one input. -/
def filterBytesWrong : ChangeSpec := { name := "filterBytes", fn := fun _ => fun
  | [d1, d2, d3] => { results := [.lit (.bool false)], args := [d1, d2, d3] }
  | _ => none }
def FilterBytesWrongFalsely : Prop := filterBytesRow.holds Try.pinned (OpenSpec.ofChange filterBytesWrong)

/- THE SECOND FORM. 'bulk': how many values and letters a reading holds, each counted each time it is reached (what is shared counts as often as it is met; a slice's spare places count too). A statement '..UptoSaid' is the law's where the arguments, and the package variables that the reading takes, are together of bulk at most 1048576: NARROWER than '..Said'. Prove '..Said' where nothing that the law and all that it calls make is longer than what came in: it says more and counts as full. Else prove '..UptoSaid'. A law counts once. -/
mutual
def uptoBulk {H : Type} : DataW H → Nat
  | .lit (.string bytes) => bytes.length + 1
  | .lit _ => 1
  | .nil => 1
  | .ptr d => uptoBulk d + 1
  | .slice elems spare => uptoBulkAll elems + uptoBulkAll spare + 1
  | .agg parts => uptoBulkAll parts + 1
  | .iface _ d => uptoBulk d + 1
  | .map entries => uptoBulkEntries entries + 1
  | .held _ => 1
def uptoBulkAll {H : Type} : List (DataW H) → Nat
  | [] => 0
  | d :: r => uptoBulk d + uptoBulkAll r
def uptoBulkEntries {H : Type} : List (Lit × DataW H) → Nat
  | [] => 0
  | x :: r => uptoBulkEntry x + uptoBulkEntries r
def uptoBulkEntry {H : Type} : Lit × DataW H → Nat
  | (.string bytes, d) => bytes.length + uptoBulk d + 1
  | (_, d) => uptoBulk d + 1
 end
def uptoSmall : (H : Type) → List (DataW H) → Bool := fun _ ds => decide (uptoBulkAll ds ≤ 1048576)
def OpenSpec.upto (s : _root_.Go.ChangeSpec) : _root_.Go.OpenSpec := { _root_.Go.OpenSpec.ofChange s with cond := some uptoSmall }

/-- 'prefectlaw7.FilterTells', WHERE WHAT IT READS IS OF BULK AT MOST 1048576: true; the input reads as it did. -/
def filterTellsUptoRow : OpenClaim := { program := "ythkjepoaddfoiaa", sum := "c52ba7f6fa7846e2952007536be0c1e694d82b995e7bf14fb4102a37e59855db", func := "prefect/prefectlaw7.FilterTells", spec := "filterTells", inPlace := ["internal/bytealg.IndexByteString", "internal/abi.NoEscape", "internal/bytealg.MakeNoZero"], unfollowed := true, recurses := true, loops := true, apart := false, narrowed := true }
def FilterTellsUptoSaid : Prop := filterTellsUptoRow.holds Try.pinned (OpenSpec.upto filterTellsSpec)

/-- 'prefectlaw7.FilterBack', WHERE WHAT IT READS IS OF BULK AT MOST 1048576: true; the input reads as it did. -/
def filterBackUptoRow : OpenClaim := { program := "ythkjepoaddfoiaa", sum := "c52ba7f6fa7846e2952007536be0c1e694d82b995e7bf14fb4102a37e59855db", func := "prefect/prefectlaw7.FilterBack", spec := "filterBack", inPlace := ["internal/bytealg.IndexByteString", "internal/abi.NoEscape", "internal/bytealg.MakeNoZero"], unfollowed := true, recurses := true, loops := true, apart := false, narrowed := true }
def FilterBackUptoSaid : Prop := filterBackUptoRow.holds Try.pinned (OpenSpec.upto filterBackSpec)

/-- 'prefectlaw7.FilterReads', WHERE WHAT IT READS IS OF BULK AT MOST 1048576: true; the input reads as it did. -/
def filterReadsUptoRow : OpenClaim := { program := "ythkjepoaddfoiaa", sum := "c52ba7f6fa7846e2952007536be0c1e694d82b995e7bf14fb4102a37e59855db", func := "prefect/prefectlaw7.FilterReads", spec := "filterReads", inPlace := ["internal/bytealg.IndexByteString", "internal/abi.NoEscape", "internal/bytealg.MakeNoZero"], unfollowed := true, recurses := true, apart := false, narrowed := true }
def FilterReadsUptoSaid : Prop := filterReadsUptoRow.holds Try.pinned (OpenSpec.upto filterReadsSpec)

/-- 'prefectlaw7.FilterNests', WHERE WHAT IT READS IS OF BULK AT MOST 1048576: true; the input reads as it did. -/
def filterNestsUptoRow : OpenClaim := { program := "ythkjepoaddfoiaa", sum := "c52ba7f6fa7846e2952007536be0c1e694d82b995e7bf14fb4102a37e59855db", func := "prefect/prefectlaw7.FilterNests", spec := "filterNests", inPlace := ["internal/bytealg.IndexByteString", "internal/abi.NoEscape", "internal/bytealg.MakeNoZero"], unfollowed := true, recurses := true, apart := false, narrowed := true }
def FilterNestsUptoSaid : Prop := filterNestsUptoRow.holds Try.pinned (OpenSpec.upto filterNestsSpec)

/-- 'prefectlaw7.FilterBytes', WHERE WHAT IT READS IS OF BULK AT MOST 1048576: true; the input reads as it did. -/
def filterBytesUptoRow : OpenClaim := { program := "ythkjepoaddfoiaa", sum := "c52ba7f6fa7846e2952007536be0c1e694d82b995e7bf14fb4102a37e59855db", func := "prefect/prefectlaw7.FilterBytes", spec := "filterBytes", inPlace := ["internal/bytealg.IndexByteString", "internal/abi.NoEscape", "internal/bytealg.MakeNoZero"], unfollowed := true, recurses := true, apart := false, narrowed := true }
def FilterBytesUptoSaid : Prop := filterBytesUptoRow.holds Try.pinned (OpenSpec.upto filterBytesSpec)

end Rows
end Go.Proofs.Ythkjepoaddfoiaa
