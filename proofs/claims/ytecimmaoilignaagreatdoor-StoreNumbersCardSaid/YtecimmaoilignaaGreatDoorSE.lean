/- The environment: what the machine knows of the library. -/
import Derived.Test.YtecimmaoilignaaGreatDoorPamM4
import Derived.Test.YtecimmaoilignaaGreatDoorFns
namespace Go.Proofs.YtecimmaoilignaaGreatDoor.M
set_option linter.unusedVariables false
set_option linter.unusedSimpArgs false
open Go Go.Pam Go.RowKit Go.WideShapes
/-- slices.Collect of maps.Keys of a map of one entry, whose key is a struct of three. KF: what maps.Keys hands on. -/
def colH (KF : FuncId) : List PV → List SObj → Option (PV × List SObj × Bool)
  | [.fn (.func f) [] [.ptr b 0]], S => if f = KF then match S[b]? with
    | some (.cells [.map id]) => match S[id]? with
      | some (.map [(.agg [.int .i64 x, .int .i64 y, .int .i64 z], _)]) => some (.lst [.agg [.int .i64 x, .int .i64 y, .int .i64 z]] .none, S, false)
      | _ => none
    | _ => none
    else none
  | _, _ => none
/-- A number's digits. -/
def digF : Nat → Nat → Str
  | 0, _ => []
  | f + 1, u => match Nat.ble 10 u with
    | false => [UInt8.ofNat (48 + u)]
    | true => digF f (u / 10) ++ [UInt8.ofNat (48 + u % 10)]
def itoa? : Int → Option Str
  | .ofNat u => match Nat.ble u 999999999999999999 with
    | true => some (digF 20 u)
    | false => none
  | .negSucc _ => none
def fmtH : List PV → List SObj → Option (PV × List SObj × Bool)
  | [.int .i64 n, .int .i64 b], S => match b with
    | .ofNat b => match Nat.beq b 10 with
      | true => match itoa? n with
        | some y => some (.str y, S, false)
        | none => none
      | false => none
    | _ => none
  | _, _ => none
def itoH : List PV → List SObj → Option (PV × List SObj × Bool)
  | [.int .i64 n], S => match itoa? n with
    | some y => some (.str y, S, false)
    | none => none
  | _, _ => none
theorem evw_fmt {env : Env} {f : FuncId} (hi : env.intr f = some fmtH) {n : Int} {y : Str} (h : itoa? n = some y) (S : List SObj) : evw env f [.int .i64 n, .int .i64 10] S = some (.str y, S, false) :=
  evw_intr hi (by simp [fmtH, h])
theorem evw_ito {env : Env} {f : FuncId} (hi : env.intr f = some itoH) {n : Int} {y : Str} (h : itoa? n = some y) (S : List SObj) : evw env f [.int .i64 n] S = some (.str y, S, false) :=
  evw_intr hi (by simp [itoH, h])
/-- strings.Count of one byte. -/
def cntB (c : UInt8) : Str → Nat
  | [] => 0
  | x :: xs => match Nat.beq x.toNat c.toNat with
    | true => cntB c xs + 1
    | false => cntB c xs
def cntH : List PV → List SObj → Option (PV × List SObj × Bool)
  | [.str s, .str [c]], S => some (.int .i64 (cntB c s), S, false)
  | _, _ => none
def env : Env := ⟨ctx, fnOf, fun f => if f = 31 then some (isFltH 27 79) else if f = 30 then some (asPtrH 79 81) else if f = 94 then some (wsH 168 5) else if f = 96 then some (stH 168 5) else if f = 162 then some (colH 164) else if f = 241 then some idxH else if f = 192 then some cntH else if f = 103 then some fmtH else if f = 54 then some itoH else none⟩
end Go.Proofs.YtecimmaoilignaaGreatDoor.M
