/- From a run of the abstract machine to the program's. -/
import Derived.Test.YthkjepoaddfoiaaPamW
namespace Go.Pam
set_option linter.unusedVariables false
set_option linter.unusedSimpArgs false
open Go.RowKit

def ppOf (w : World) (b : Nat) : Nat := match w.heap[b]? with
  | some (.cells cur _ _) => cur.size
  | _ => 0

def g0 (w : World) : G := { pp := ppOf w, loc := fun _ => 0, hw := fun _ => 0, tsz := fun _ => 0, obj := fun _ => false, fix := fun k => k < w.heap.size }

theorem r0 (w : World) : R [] w (g0 w) 0 (fun _ => 0) :=
  ⟨Nat.le_refl _, fun _ _ => Nat.le_refl _, fun _ hk => hk, fun b hb => by
    show ppOf w b = 0
    unfold ppOf
    rw [Array.getElem?_eq_none hb], fun id o ho => by simp at ho, fun i j o p ho => by simp at ho⟩

theorem walk_of {P : Program} {env : Env} (hc : EnvOk P env) {f : FuncId} {args : List PV} {cargs : Array Value} {w : World} {v : PV} {S' : List SObj} {e : Bool} (h : evw env f args [] = some (v, S', e))
    (hl : args.length = cargs.size) (hV : ∀ (i : Nat) (c : PV), args[i]? = some c → V (g0 w) w 0 c (cargs.getD i undef)) :
    Calls P f cargs w fun en w' => ∃ rv g', en = .returned rv ∧ V g' w' S'.length v rv ∧ Below w.heap.size w w' := by
  obtain ⟨k, hk⟩ := evw_of h
  obtain ⟨_, hc⟩ := ev_sound hc k f args [] v S' e hk w (g0 w) 0 (fun _ => 0) cargs (r0 w) hl hV
  refine hc.mono ?_
  rintro en w' ⟨rv, rfl, g', h1, _, h3, _⟩
  exact ⟨rv, g', rfl, h1, h3.os, h3.tape, h3.output, h3.size, fun k hk => h3.low k hk⟩

theorem walk_true {P : Program} {env : Env} (hc : EnvOk P env) {f : FuncId} {args : List PV} {cargs : Array Value} {w : World} {S' : List SObj} {e : Bool} (h : evw env f args [] = some (.bool true, S', e))
    (hl : args.length = cargs.size) (hV : ∀ (i : Nat) (c : PV), args[i]? = some c → V (g0 w) w 0 c (cargs.getD i undef)) :
    Calls P f cargs w fun en w' => en = .returned (.bool true) ∧ Below w.heap.size w w' := by
  refine (walk_of hc h hl hV).mono ?_
  rintro en w' ⟨rv, g', rfl, h1, h2⟩
  rw [h1.inv_bool]
  exact ⟨rfl, h2⟩

theorem hV_nil {w : World} : ∀ (i : Nat) (c : PV), ([] : List PV)[i]? = some c → V (g0 w) w 0 c ((#[] : Array Value).getD i undef) := fun i c h => by simp at h

inductive AllV (w : World) : List PV → List Value → Prop
  | nil : AllV w [] []
  | cons {c : PV} {v : Value} {cs : List PV} {vs : List Value} (h : V (g0 w) w 0 c v) (hs : AllV w cs vs) : AllV w (c :: cs) (v :: vs)

theorem hV_list {w : World} {args : List PV} {cargs : List Value} (h : AllV w args cargs) : args.length = cargs.toArray.size ∧ ∀ (i : Nat) (c : PV), args[i]? = some c → V (g0 w) w 0 c (cargs.toArray.getD i undef) := by
  induction h with
  | nil => exact ⟨rfl, fun i c h => by simp at h⟩
  | cons h1 _ ih =>
    refine ⟨by simpa using ih.1, fun i c hi => ?_⟩
    cases i with
    | zero => simp at hi; subst hi; simpa using h1
    | succ i => simpa using ih.2 i c (by simpa using hi)
end Go.Pam
