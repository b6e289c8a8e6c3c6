/- The environment: what the machine knows of the library. -/
import Derived.Test.YtbondebiijokaaaGreatDoorPamM4
import Derived.Test.YtbondebiijokaaaGreatDoorFns
namespace Go.Proofs.YtbondebiijokaaaGreatDoor.M
set_option linter.unusedVariables false
set_option linter.unusedSimpArgs false
open Go Go.Pam Go.RowKit Go.WideShapes
/-- errors.Is of numbers, and of nothing. -/
def numH (t : TypeId) : List PV → List SObj → Option (PV × List SObj × Bool)
  | [.nili, .ifc t2 (.int .i64 _)], S => if t2 = t then some (.bool false, S, false) else none
  | [.ifc t1 (.int .i64 a), .ifc t2 (.int .i64 b)], S => if t1 = t ∧ t2 = t then some (.bool (a == b), S, false) else none
  | _, _ => none
/-- slices.Collect of maps.Keys of a map of one entry, whose key is a struct of three. KF: what maps.Keys hands on. -/
def colH (KF : FuncId) : List PV → List SObj → Option (PV × List SObj × Bool)
  | [.fn (.func f) [] [.ptr b 0]], S => if f = KF then match S[b]? with
    | some (.cells [.map id]) => match S[id]? with
      | some (.map [(.agg [.int .i64 x, .int .i64 y, .int .i64 z], _)]) => some (.lst [.agg [.int .i64 x, .int .i64 y, .int .i64 z]] .none, S, false)
      | _ => none
    | _ => none
    else none
  | _, _ => none
def env : Env := ⟨ctx, fnOf, fun f => if f = 26 then some (numH 24) else if f = 106 then some (wsH 164 5) else if f = 108 then some (stH 164 5) else if f = 158 then some (colH 160) else none⟩
end Go.Proofs.YtbondebiijokaaaGreatDoor.M
