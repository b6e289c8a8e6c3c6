/- The abstract machine and its soundness, part 3. -/
import Derived.Test.YtbinlabnilidiaaGreatDoorPamM1
import Derived.Test.YtbinlabnilidiaaGreatDoorPamM2
set_option linter.unusedVariables false
set_option linter.unusedSimpArgs false
namespace Go.Pam
variable {env : Env} {fr : Fr} {σ : Nat → PV} {S : List SObj} {S0 : List SObj} {R : List Nat} {C : List (Nat × SObj)} {A : List (PV × Nat)} {W : List (PV × SObj)}
variable {hist : List (List SObj)} {pend : List (TypeId × PV × PV)} {rest : List POp} {d : Option Nat} {e : Bool} {K : KS}
end Go.Pam
namespace Go.Pam
variable {env : Env} {fr : Fr} {σ : Nat → PV} {S : List SObj} {S0 : List SObj} {R : List Nat} {C : List (Nat × SObj)} {A : List (PV × Nat)} {W : List (PV × SObj)}
theorem XeR {α : Type} {f : α → PV} {xs : List α} {a i : Operand} {t e : TypeId} {n : Nat} {k : IntKind} {m : Int} {y : α} (ho : opd σ a = .agg (xs.map f)) (hi : opd σ i = .int k m) (ht : (env.ctx.ty t).map (·.und) = some (.array n e)) (hn : n = xs.length)
  (he : (env.ctx.ty e).map (fun ei => (ei.size, ei.agg)) = some (1, false)) (hy : Sl.at? (some xs) m = some y) : stp env fr σ S (.index t a i) = some (f y, S, false) := by
 cases hti : env.ctx.ty t with
 | none => rw [hti] at ht; cases ht
 | some ti =>
  rw [hti] at ht
  have hu : ti.und = .array n e := by simpa using ht
  cases hei : env.ctx.ty e with
  | none => rw [hei] at he; cases he
  | some ei =>
   rw [hei] at he
   simp only [Option.map_some, Option.some.injEq, Prod.mk.injEq] at he
   unfold Sl.at? at hy
   split at hy
   case isFalse => cases hy
   rename_i h0
   rw [Sl.l_some] at hy
   have hlt := (List.getElem?_eq_some_iff.1 hy).1
   simp only [stp, XaL, hi, ho, XeE, hti, hu, hei]
   rw [if_pos ⟨h0, by omega⟩]
   simp only [Xbz, hei, he.1, he.2, Bool.false_eq_true, if_false, Nat.mul_one, List.getElem?_map, hy, Option.map_some]
end Go.Pam
