/- The store's law's own environment: readWhole of the four first texts, known, ParseInt beside what SE has. -/
import Derived.Test.YtecimmaoilignaaGreatDoorSLr
namespace Go.Proofs.YtecimmaoilignaaGreatDoor.M.L
set_option linter.unusedVariables false
set_option linter.unusedSimpArgs false
open Go Go.Pam Go.RowKit Go.WideShapes
set_option maxRecDepth 100000
def rt : Nat → Str
  | 0 => rt0
  | 1 => rt1
  | 2 => rt2
  | _ => rt3
def ct : Nat → Str
  | 0 => ct0
  | 1 => ct1
  | 2 => ct2
  | _ => ct3
def rwV : Nat → PV
  | 0 => rwV0
  | 1 => rwV1
  | 2 => rwV2
  | _ => rwV3
def rwS : Nat → List SObj
  | 0 => rwS0
  | 1 => rwS1
  | 2 => rwS2
  | _ => rwS3
def rwH (args : List PV) (S : List SObj) : Option (PV × List SObj × Bool) :=
  match upH [.str rt0] rwV0 rwS0 args S with
  | some r => some r
  | none => match upH [.str rt1] rwV1 rwS1 args S with
    | some r => some r
    | none => match upH [.str rt2] rwV2 rwS2 args S with
      | some r => some r
      | none => upH [.str rt3] rwV3 rwS3 args S
def knH : List PV → List SObj → Option (PV × List SObj × Bool) := fun args S => match args with
  | [] => some (.bool true, S, false)
  | _ => none
/-- A number's digits, read. -/
def pnum : Nat → Str → Option Nat
  | n, [] => some n
  | n, c :: cs => if 48 ≤ c.toNat ∧ c.toNat ≤ 57 then pnum (10 * n + (c.toNat - 48)) cs else none
def pint? (s : Str) : Option Int := if s.length ≤ 18 ∧ s ≠ [] then (pnum 0 s).map fun n => (n : Int) else none
def piH : List PV → List SObj → Option (PV × List SObj × Bool)
  | [.str s, .int .i64 b, .int .i64 c], S => if b = 10 ∧ c = 64 then match pint? s with
    | some n => some (.tup [.int .i64 n, .nili], S, false)
    | none => none
    else none
  | _, _ => none
def env : Env := ⟨ctx, fnOf, fun f => if f = 114 then some rwH else if f = 4 then some knH else if f = 145 then some piH else M.env.intr f⟩
theorem evw_pi {s : Str} {n : Int} (h : pint? s = some n) (S : List SObj) : evw env 145 [.str s, .int .i64 10, .int .i64 64] S = some (.tup [.int .i64 n, .nili], S, false) :=
  evw_intr (f := 145) rfl (by simp [piH, h])
theorem evw_rw (r : Nat) (S : List SObj) : evw env 114 [.str (rt r)] S = some ((rwV r).up S.length, S ++ (rwS r).map (SObj.up S.length), false) := by
  refine evw_intr (f := 114) rfl ?_
  have n1 : sameL [PV.str rt1] [.str rt0] = false := by kernel_rfl
  have n2 : sameL [PV.str rt2] [.str rt0] = false := by kernel_rfl
  have n3 : sameL [PV.str rt3] [.str rt0] = false := by kernel_rfl
  have n4 : sameL [PV.str rt2] [.str rt1] = false := by kernel_rfl
  have n5 : sameL [PV.str rt3] [.str rt1] = false := by kernel_rfl
  have n6 : sameL [PV.str rt3] [.str rt2] = false := by kernel_rfl
  match r with
  | 0 => simp only [rt, rwV, rwS, rwH, upH, sameL_refl]
  | 1 => simp only [rt, rwV, rwS, rwH, upH, sameL_refl, n1]
  | 2 => simp only [rt, rwV, rwS, rwH, upH, sameL_refl, n2, n4]
  | _ + 3 => simp only [rt, rwV, rwS, rwH, upH, sameL_refl, n3, n5, n6]
end Go.Proofs.YtecimmaoilignaaGreatDoor.M.L
