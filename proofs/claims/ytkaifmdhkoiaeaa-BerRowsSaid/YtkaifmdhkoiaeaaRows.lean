/-
  NARROWER THAN 'FOR EVERY INPUT', by the rows' own cells (each row's printed sentence says how): BerWrites: loops · BerBack: loops.
  DERIVED. THE GIVEN ROWS OF THIS SEAT. 7 by the template 'for every input the law returns true; each argument reads behind the call as it read before'; 0 by the template 'total and deterministic' (their statements: YtkaifmdhkoiaeaaTotals.lean).
  GIVEN WITH THE SEED: the statements are not yours to turn. If you find one false, say at which input.
  Laid BY PROGRAM, IN A SANDBOX (cutbox-rows.mjs): the forced cells as the released guide's own fill.sh prints them over the translation ccecd7672b798ceb… (all of the seat's roots in one cut). By AI agents, Wed Nov 11 2026. No macro, syntax, notation, axiom, sorry.
-/
import Derived.Test.YtkaifmdhkoiaeaaChecked
import GoSem.Claim
import GoSem.ClaimJoined
import GoSem.ClaimMapViews
import Derived.JoinedTies
import Derived.KernelRfl
namespace Go.Proofs.Ytkaifmdhkoiaeaa
/- THE CELL 'sum', in the pinned program and in every row, IS THE sha256 OF THE DUMP (.gsa) THAT YtkaifmdhkoiaeaaProg.lean LOADS. Nothing in Lean hashes anything: it is a label: what it is worth is what the hold of that sum in a sandbox is worth. -/
noncomputable def Try.pinned : Pinned := { name := "ytkaifmdhkoiaeaa", sum := "ccecd7672b798ceb395f5a320c0f2994b4bbb5f000840a4851058ce228456c7d", checked := Try.checked }
namespace Rows
def none {H : Type} : Left H := { results := [], args := [] }

/-- 'prefectlaw1.BerReads': WHATEVER THE INPUT: true; the input reads as it did. -/
def berReadsSpec : ChangeSpec := { name := "berReads", fn := fun _ => fun
  | [d] => { results := [.lit (.bool true)], args := [d] }
  | _ => none }
def berReadsRow : OpenClaim := { program := "ytkaifmdhkoiaeaa", sum := "ccecd7672b798ceb395f5a320c0f2994b4bbb5f000840a4851058ce228456c7d", func := "prefect/prefectlaw1.BerReads", spec := "berReads", unfollowed := true, recurses := true, apart := false }
def BerReadsSaid : Prop := berReadsRow.holds Try.pinned (OpenSpec.ofChange berReadsSpec)

/-- ITS FALSE NEIGHBOUR: 'it returns false'. Refute it at one input. -/
def berReadsWrong : ChangeSpec := { name := "berReads", fn := fun _ => fun
  | [d] => { results := [.lit (.bool false)], args := [d] }
  | _ => none }
def BerReadsWrongFalsely : Prop := berReadsRow.holds Try.pinned (OpenSpec.ofChange berReadsWrong)

/-- 'prefectlaw1.BerWrites': WHATEVER THE INPUT: true; the input reads as it did. -/
def berWritesSpec : ChangeSpec := { name := "berWrites", fn := fun _ => fun
  | [d1, d2] => { results := [.lit (.bool true)], args := [d1, d2] }
  | _ => none }
def berWritesRow : OpenClaim := { program := "ytkaifmdhkoiaeaa", sum := "ccecd7672b798ceb395f5a320c0f2994b4bbb5f000840a4851058ce228456c7d", func := "prefect/prefectlaw1.BerWrites", spec := "berWrites", unfollowed := true, recurses := true, loops := true, apart := false }
def BerWritesSaid : Prop := berWritesRow.holds Try.pinned (OpenSpec.ofChange berWritesSpec)

/-- ITS FALSE NEIGHBOUR: 'it returns false'. Refute it at one input. -/
def berWritesWrong : ChangeSpec := { name := "berWrites", fn := fun _ => fun
  | [d1, d2] => { results := [.lit (.bool false)], args := [d1, d2] }
  | _ => none }
def BerWritesWrongFalsely : Prop := berWritesRow.holds Try.pinned (OpenSpec.ofChange berWritesWrong)

/-- 'prefectlaw1.BerBack': WHATEVER THE INPUT: true; the input reads as it did. -/
def berBackSpec : ChangeSpec := { name := "berBack", fn := fun _ => fun
  | [d1, d2, d3] => { results := [.lit (.bool true)], args := [d1, d2, d3] }
  | _ => none }
def berBackRow : OpenClaim := { program := "ytkaifmdhkoiaeaa", sum := "ccecd7672b798ceb395f5a320c0f2994b4bbb5f000840a4851058ce228456c7d", func := "prefect/prefectlaw1.BerBack", spec := "berBack", unfollowed := true, recurses := true, loops := true, apart := false }
def BerBackSaid : Prop := berBackRow.holds Try.pinned (OpenSpec.ofChange berBackSpec)

/-- ITS FALSE NEIGHBOUR: 'it returns false'. Refute it at one input. -/
def berBackWrong : ChangeSpec := { name := "berBack", fn := fun _ => fun
  | [d1, d2, d3] => { results := [.lit (.bool false)], args := [d1, d2, d3] }
  | _ => none }
def BerBackWrongFalsely : Prop := berBackRow.holds Try.pinned (OpenSpec.ofChange berBackWrong)

/-- 'prefectlaw1.BerLengths': WHATEVER THE INPUT: true; the input reads as it did. -/
def berLengthsSpec : ChangeSpec := { name := "berLengths", fn := fun _ => fun
  | [d1, d2, d3] => { results := [.lit (.bool true)], args := [d1, d2, d3] }
  | _ => none }
def berLengthsRow : OpenClaim := { program := "ytkaifmdhkoiaeaa", sum := "ccecd7672b798ceb395f5a320c0f2994b4bbb5f000840a4851058ce228456c7d", func := "prefect/prefectlaw1.BerLengths", spec := "berLengths", unfollowed := true, recurses := true, apart := false }
def BerLengthsSaid : Prop := berLengthsRow.holds Try.pinned (OpenSpec.ofChange berLengthsSpec)

/-- ITS FALSE NEIGHBOUR: 'it returns false'. Refute it at one input. -/
def berLengthsWrong : ChangeSpec := { name := "berLengths", fn := fun _ => fun
  | [d1, d2, d3] => { results := [.lit (.bool false)], args := [d1, d2, d3] }
  | _ => none }
def BerLengthsWrongFalsely : Prop := berLengthsRow.holds Try.pinned (OpenSpec.ofChange berLengthsWrong)

/-- 'prefectlaw1.BerDeep': WHATEVER THE INPUT: true; the input reads as it did. -/
def berDeepSpec : ChangeSpec := { name := "berDeep", fn := fun _ => fun
  | [d1, d2] => { results := [.lit (.bool true)], args := [d1, d2] }
  | _ => none }
def berDeepRow : OpenClaim := { program := "ytkaifmdhkoiaeaa", sum := "ccecd7672b798ceb395f5a320c0f2994b4bbb5f000840a4851058ce228456c7d", func := "prefect/prefectlaw1.BerDeep", spec := "berDeep", unfollowed := true, recurses := true, apart := false }
def BerDeepSaid : Prop := berDeepRow.holds Try.pinned (OpenSpec.ofChange berDeepSpec)

/-- ITS FALSE NEIGHBOUR: 'it returns false'. Refute it at one input. -/
def berDeepWrong : ChangeSpec := { name := "berDeep", fn := fun _ => fun
  | [d1, d2] => { results := [.lit (.bool false)], args := [d1, d2] }
  | _ => none }
def BerDeepWrongFalsely : Prop := berDeepRow.holds Try.pinned (OpenSpec.ofChange berDeepWrong)

/-- 'prefectlaw1.BerRows': WHATEVER THE INPUT: true; the input reads as it did. -/
def berRowsSpec : ChangeSpec := { name := "berRows", fn := fun _ => fun
  | [d1, d2] => { results := [.lit (.bool true)], args := [d1, d2] }
  | _ => none }
def berRowsRow : OpenClaim := { program := "ytkaifmdhkoiaeaa", sum := "ccecd7672b798ceb395f5a320c0f2994b4bbb5f000840a4851058ce228456c7d", func := "prefect/prefectlaw1.BerRows", spec := "berRows", unfollowed := true, recurses := true, apart := false }
def BerRowsSaid : Prop := berRowsRow.holds Try.pinned (OpenSpec.ofChange berRowsSpec)

/-- ITS FALSE NEIGHBOUR: 'it returns false'. Refute it at one input. -/
def berRowsWrong : ChangeSpec := { name := "berRows", fn := fun _ => fun
  | [d1, d2] => { results := [.lit (.bool false)], args := [d1, d2] }
  | _ => none }
def BerRowsWrongFalsely : Prop := berRowsRow.holds Try.pinned (OpenSpec.ofChange berRowsWrong)

/-- 'prefectlaw1.BerInner': WHATEVER THE INPUT: true; the input reads as it did. -/
def berInnerSpec : ChangeSpec := { name := "berInner", fn := fun _ => fun
  | [d1, d2, d3] => { results := [.lit (.bool true)], args := [d1, d2, d3] }
  | _ => none }
def berInnerRow : OpenClaim := { program := "ytkaifmdhkoiaeaa", sum := "ccecd7672b798ceb395f5a320c0f2994b4bbb5f000840a4851058ce228456c7d", func := "prefect/prefectlaw1.BerInner", spec := "berInner", unfollowed := true, recurses := true, apart := false }
def BerInnerSaid : Prop := berInnerRow.holds Try.pinned (OpenSpec.ofChange berInnerSpec)

/-- ITS FALSE NEIGHBOUR: 'it returns false'. Refute it at one input. -/
def berInnerWrong : ChangeSpec := { name := "berInner", fn := fun _ => fun
  | [d1, d2, d3] => { results := [.lit (.bool false)], args := [d1, d2, d3] }
  | _ => none }
def BerInnerWrongFalsely : Prop := berInnerRow.holds Try.pinned (OpenSpec.ofChange berInnerWrong)

/- THE SECOND FORM. 'bulk': how many values and letters a reading holds, each counted each time it is reached (what is shared counts as often as it is met; a slice's spare places count too). A statement '..UptoSaid' is the law's where the arguments, and the package variables that the reading takes, are together of bulk at most 1048576: NARROWER than '..Said'. Prove '..Said' where nothing that the law and all that it calls make is longer than what came in: it says more and counts as full. Else prove '..UptoSaid'. A law counts once. -/
mutual
def uptoBulk {H : Type} : DataW H → Nat
  | .lit (.string bytes) => bytes.length + 1
  | .lit _ => 1
  | .nil => 1
  | .ptr d => uptoBulk d + 1
  | .slice elems spare => uptoBulkAll elems + uptoBulkAll spare + 1
  | .agg parts => uptoBulkAll parts + 1
  | .iface _ d => uptoBulk d + 1
  | .map entries => uptoBulkEntries entries + 1
  | .held _ => 1
def uptoBulkAll {H : Type} : List (DataW H) → Nat
  | [] => 0
  | d :: r => uptoBulk d + uptoBulkAll r
def uptoBulkEntries {H : Type} : List (Lit × DataW H) → Nat
  | [] => 0
  | x :: r => uptoBulkEntry x + uptoBulkEntries r
def uptoBulkEntry {H : Type} : Lit × DataW H → Nat
  | (.string bytes, d) => bytes.length + uptoBulk d + 1
  | (_, d) => uptoBulk d + 1
 end
def uptoSmall : (H : Type) → List (DataW H) → Bool := fun _ ds => decide (uptoBulkAll ds ≤ 1048576)
def OpenSpec.upto (s : _root_.Go.ChangeSpec) : _root_.Go.OpenSpec := { _root_.Go.OpenSpec.ofChange s with cond := some uptoSmall }

/-- 'prefectlaw1.BerReads', WHERE WHAT IT READS IS OF BULK AT MOST 1048576: true; the input reads as it did. -/
def berReadsUptoRow : OpenClaim := { program := "ytkaifmdhkoiaeaa", sum := "ccecd7672b798ceb395f5a320c0f2994b4bbb5f000840a4851058ce228456c7d", func := "prefect/prefectlaw1.BerReads", spec := "berReads", unfollowed := true, recurses := true, apart := false, narrowed := true }
def BerReadsUptoSaid : Prop := berReadsUptoRow.holds Try.pinned (OpenSpec.upto berReadsSpec)

/-- 'prefectlaw1.BerWrites', WHERE WHAT IT READS IS OF BULK AT MOST 1048576: true; the input reads as it did. -/
def berWritesUptoRow : OpenClaim := { program := "ytkaifmdhkoiaeaa", sum := "ccecd7672b798ceb395f5a320c0f2994b4bbb5f000840a4851058ce228456c7d", func := "prefect/prefectlaw1.BerWrites", spec := "berWrites", unfollowed := true, recurses := true, loops := true, apart := false, narrowed := true }
def BerWritesUptoSaid : Prop := berWritesUptoRow.holds Try.pinned (OpenSpec.upto berWritesSpec)

/-- 'prefectlaw1.BerBack', WHERE WHAT IT READS IS OF BULK AT MOST 1048576: true; the input reads as it did. -/
def berBackUptoRow : OpenClaim := { program := "ytkaifmdhkoiaeaa", sum := "ccecd7672b798ceb395f5a320c0f2994b4bbb5f000840a4851058ce228456c7d", func := "prefect/prefectlaw1.BerBack", spec := "berBack", unfollowed := true, recurses := true, loops := true, apart := false, narrowed := true }
def BerBackUptoSaid : Prop := berBackUptoRow.holds Try.pinned (OpenSpec.upto berBackSpec)

/-- 'prefectlaw1.BerLengths', WHERE WHAT IT READS IS OF BULK AT MOST 1048576: true; the input reads as it did. -/
def berLengthsUptoRow : OpenClaim := { program := "ytkaifmdhkoiaeaa", sum := "ccecd7672b798ceb395f5a320c0f2994b4bbb5f000840a4851058ce228456c7d", func := "prefect/prefectlaw1.BerLengths", spec := "berLengths", unfollowed := true, recurses := true, apart := false, narrowed := true }
def BerLengthsUptoSaid : Prop := berLengthsUptoRow.holds Try.pinned (OpenSpec.upto berLengthsSpec)

/-- 'prefectlaw1.BerDeep', WHERE WHAT IT READS IS OF BULK AT MOST 1048576: true; the input reads as it did. -/
def berDeepUptoRow : OpenClaim := { program := "ytkaifmdhkoiaeaa", sum := "ccecd7672b798ceb395f5a320c0f2994b4bbb5f000840a4851058ce228456c7d", func := "prefect/prefectlaw1.BerDeep", spec := "berDeep", unfollowed := true, recurses := true, apart := false, narrowed := true }
def BerDeepUptoSaid : Prop := berDeepUptoRow.holds Try.pinned (OpenSpec.upto berDeepSpec)

/-- 'prefectlaw1.BerRows', WHERE WHAT IT READS IS OF BULK AT MOST 1048576: true; the input reads as it did. -/
def berRowsUptoRow : OpenClaim := { program := "ytkaifmdhkoiaeaa", sum := "ccecd7672b798ceb395f5a320c0f2994b4bbb5f000840a4851058ce228456c7d", func := "prefect/prefectlaw1.BerRows", spec := "berRows", unfollowed := true, recurses := true, apart := false, narrowed := true }
def BerRowsUptoSaid : Prop := berRowsUptoRow.holds Try.pinned (OpenSpec.upto berRowsSpec)

/-- 'prefectlaw1.BerInner', WHERE WHAT IT READS IS OF BULK AT MOST 1048576: true; the input reads as it did. -/
def berInnerUptoRow : OpenClaim := { program := "ytkaifmdhkoiaeaa", sum := "ccecd7672b798ceb395f5a320c0f2994b4bbb5f000840a4851058ce228456c7d", func := "prefect/prefectlaw1.BerInner", spec := "berInner", unfollowed := true, recurses := true, apart := false, narrowed := true }
def BerInnerUptoSaid : Prop := berInnerUptoRow.holds Try.pinned (OpenSpec.upto berInnerSpec)

end Rows
end Go.Proofs.Ytkaifmdhkoiaeaa
