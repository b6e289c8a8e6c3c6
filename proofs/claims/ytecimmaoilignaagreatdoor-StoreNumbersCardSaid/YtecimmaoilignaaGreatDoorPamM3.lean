/- The abstract machine and its soundness, part 3. -/
import Derived.WideShapes
import Derived.Carry
import Derived.Deep.Slices
import Derived.ChangeArms
import Derived.Maps.AppendAt
import Derived.Lib.FrozenHead
import Derived.Lib.FrozenHead2
import Derived.Lib.UnsafeStr
import Derived.Test.YtecimmaoilignaaGreatDoorPamM1
import Derived.Test.YtecimmaoilignaaGreatDoorPamM2
set_option linter.unusedVariables false
set_option linter.unusedSimpArgs false
namespace Go.Pam
abbrev KX := Ex → (Nat → PV) → List SObj → Bool → Prop
def WO (env : Env) (fr : Fr) (ops : List POp) (σ : Nat → PV) (S : List SObj) (e : Bool) (K : KS) : Prop :=
 ∃ σ' S' e', evOps env.ctx (evw env) fr ops σ S e = some (σ', S', e') ∧ K σ' S' e'
def WH (env : Env) (fr : Fr) (ops : List POp) (σ : Nat → PV) (S : List SObj) (K : (Nat → PV) → Prop) : Prop :=
 ∃ σ', evHead env.ctx (evw env) fr S ops σ = some σ' ∧ K σ'
def WC (env : Env) (fr : Fr) (c : PC) (σ : Nat → PV) (S : List SObj) (e : Bool) (K : KX) : Prop :=
 ∃ x σ' S' e', codeW env.ctx (evw env) fr c (σ, S, e) = some (x, σ', S', e') ∧ K x σ' S' e'
noncomputable abbrev stF (env : Env) (fr : Fr) (σ : Nat → PV) (S : List SObj) (p : POp) := evStepF env.ctx (evw env) fr.base σ S p
noncomputable abbrev stp (env : Env) (fr : Fr) (σ : Nat → PV) (S : List SObj) (op : Op) := evStep env.ctx (evw env) fr.base σ S op
variable {env : Env} {fr : Fr}
theorem nz {σ : Nat → PV} {S : List SObj} {d : Option Nat} {op : Op} {g : Option (Nat × Bool)} {r : Option (PV × List SObj × Bool)} (hz : frzT (frzArgs env.ctx σ op) σ S = (σ, S)) (hs : stp env fr σ S op = r) : stF env fr σ S ⟨d, op, g, false⟩ = r := by
 show evStepF env.ctx (evw env) fr.base σ S ⟨d, op, g, false⟩ = r
 unfold evStepF
 simp only [hz, Bool.false_eq_true, if_false]
 exact hs
theorem bz {σ σ1 : Nat → PV} {S S1 S' : List SObj} {v : PV} {d : Option Nat} {op : Op} {g : Option (Nat × Bool)} (hz : frzT (frzArgs env.ctx σ op) σ S = (σ1, S1)) (hs : birthPV env.ctx σ1 S1 op = some (v, S')) (hc : callV op = none := by rfl) : stF env fr σ S ⟨d, op, g, true⟩ = some (v, S', false) := by
 show evStepF env.ctx (evw env) fr.base σ S ⟨d, op, g, true⟩ = _
 unfold evStepF
 simp only [hz, if_true, birthF, hc, hs, Option.map_some]
theorem WO.nil {σ S e} {K : KS} (h : K σ S e) : WO env fr [] σ S e K := ⟨_, _, _, rfl, h⟩
theorem WO.step {op : Op} {d : Option Nat} {wr : Bool} {rest : List POp} {σ S e S'} {v : PV} {e' : Bool} {K : KS} (hd : dstOk fr.ntmps d = true)
  (hs : stF env fr σ S ⟨d, op, none, wr⟩ = some (v, S', e')) (h : WO env fr rest (upd σ d v) S' (e || e') K) : WO env fr (⟨d, op, none, wr⟩ :: rest) σ S e K := by
 obtain ⟨σ1, S1, e1, h1, h2⟩ := h
 refine ⟨σ1, S1, e1, ?_, h2⟩
 unfold evOps
 simp only [hd, if_true, wantedPV]
 unfold stF at hs
 rw [hs]
 exact h1
theorem WO.go {op : Op} {d : Option Nat} {t : Nat} {want b : Bool} {wr : Bool} {rest : List POp} {σ S e S'} {v : PV} {e' : Bool} {K : KS} (hd : dstOk fr.ntmps d = true)
  (hb : σ t = .bool b) (hw : (b == want) = true)
  (hs : stF env fr σ S ⟨d, op, some (t, want), wr⟩ = some (v, S', e')) (h : WO env fr rest (upd σ d v) S' (e || e') K) : WO env fr (⟨d, op, some (t, want), wr⟩ :: rest) σ S e K := by
 obtain ⟨σ1, S1, e1, h1, h2⟩ := h
 refine ⟨σ1, S1, e1, ?_, h2⟩
 unfold evOps
 simp only [hd, if_true, wantedPV, hb, hw]
 unfold stF at hs
 rw [hs]
 exact h1
theorem WO.by {op : Op} {d : Option Nat} {t : Nat} {want b : Bool} {wr : Bool} {rest : List POp} {σ S e} {K : KS} (hd : dstOk fr.ntmps d = true)
  (hb : σ t = .bool b) (hw : (b == want) = false) (h : WO env fr rest (upd σ d (.tup [])) S e K) : WO env fr (⟨d, op, some (t, want), wr⟩ :: rest) σ S e K := by
 obtain ⟨σ1, S1, e1, h1, h2⟩ := h
 refine ⟨σ1, S1, e1, ?_, h2⟩
 unfold evOps
 simp only [hd, if_true, wantedPV, hb, hw]
 exact h1
theorem WO.by0 {op : Op} {d : Option Nat} {t : Nat} {want : Bool} {wr : Bool} {rest : List POp} {σ S e} {K : KS} (hd : dstOk fr.ntmps d = true)
  (hb : σ t = .tup []) (h : WO env fr rest (upd σ d (.tup [])) S e K) : WO env fr (⟨d, op, some (t, want), wr⟩ :: rest) σ S e K := by
 obtain ⟨σ1, S1, e1, h1, h2⟩ := h
 refine ⟨σ1, S1, e1, ?_, h2⟩
 unfold evOps
 simp only [hd, if_true, wantedPV, hb]
 exact h1
theorem evOps_append (ctx : Ctx) (call : Call') (fr : Fr) : ∀ (l r : List POp) (σ : Nat → PV) (S : List SObj) (e : Bool),
  evOps ctx call fr (l ++ r) σ S e = match evOps ctx call fr l σ S e with | some (σ', S', e') => evOps ctx call fr r σ' S' e' | none => none
 | [], r, σ, S, e => rfl
 | p :: l, r, σ, S, e => by
  rw [List.cons_append, evOps, evOps]
  split
  ·split
   ·rfl
   ·exact evOps_append ctx call fr l r _ _ _
   ·split
    ·rfl
    ·exact evOps_append ctx call fr l r _ _ _
  ·rfl
theorem WO.split (n : Nat) {l : List POp} {σ S e} {K : KS} (P : KS) (h : WO env fr (l.take n) σ S e P) (h2 : ∀ σ' S' e', P σ' S' e' → WO env fr (l.drop n) σ' S' e' K) : WO env fr l σ S e K := by
 obtain ⟨σ1, S1, e1, h1, hp⟩ := h
 obtain ⟨σ2, S2, e2, h3, h4⟩ := h2 _ _ _ hp
 refine ⟨σ2, S2, e2, ?_, h4⟩
 rw [← List.take_append_drop n l, evOps_append, h1]
 exact h3
theorem WO.mono {l : List POp} {σ S e} {K K' : KS} (h : WO env fr l σ S e K) (hk : ∀ σ' S' e', K σ' S' e' → K' σ' S' e') : WO env fr l σ S e K' := by
 obtain ⟨σ1, S1, e1, h1, h2⟩ := h
 exact ⟨_, _, _, h1, hk _ _ _ h2⟩
theorem WH.nil {σ S} {K : (Nat → PV) → Prop} (h : K σ) : WH env fr [] σ S K := ⟨_, rfl, h⟩
theorem same_of {S' S : List SObj} {e' : Bool} (hS : S' = S) (he : e' = false) : (sameS S' S && !e') = true := by
 subst hS he; simp [sameS_refl]
theorem WH.step {op : Op} {d : Option Nat} {wr : Bool} {rest : List POp} {σ S S'} {v : PV} {e' : Bool} {K : (Nat → PV) → Prop} (hd : dstOk fr.ntmps d = true)
  (hs : stF env fr σ S ⟨d, op, none, wr⟩ = some (v, S', e')) (hS : S' = S) (he : e' = false) (h : WH env fr rest (upd σ d v) S K) : WH env fr (⟨d, op, none, wr⟩ :: rest) σ S K := by
 obtain ⟨σ1, h1, h2⟩ := h
 refine ⟨σ1, ?_, h2⟩
 unfold evHead
 simp only [hd, if_true, wantedPV]
 unfold stF at hs
 rw [hs]
 simp only [same_of hS he, if_true]
 exact h1
theorem WH.go {op : Op} {d : Option Nat} {t : Nat} {want b : Bool} {wr : Bool} {rest : List POp} {σ S S'} {v : PV} {e' : Bool} {K : (Nat → PV) → Prop} (hd : dstOk fr.ntmps d = true)
  (hb : σ t = .bool b) (hw : (b == want) = true)
  (hs : stF env fr σ S ⟨d, op, some (t, want), wr⟩ = some (v, S', e')) (hS : S' = S) (he : e' = false) (h : WH env fr rest (upd σ d v) S K) : WH env fr (⟨d, op, some (t, want), wr⟩ :: rest) σ S K := by
 obtain ⟨σ1, h1, h2⟩ := h
 refine ⟨σ1, ?_, h2⟩
 unfold evHead
 simp only [hd, if_true, wantedPV, hb, hw]
 unfold stF at hs
 rw [hs]
 simp only [same_of hS he, if_true]
 exact h1
theorem WH.by {op : Op} {d : Option Nat} {t : Nat} {want b : Bool} {wr : Bool} {rest : List POp} {σ S} {K : (Nat → PV) → Prop} (hd : dstOk fr.ntmps d = true)
  (hb : σ t = .bool b) (hw : (b == want) = false) (h : WH env fr rest (upd σ d (.tup [])) S K) : WH env fr (⟨d, op, some (t, want), wr⟩ :: rest) σ S K := by
 obtain ⟨σ1, h1, h2⟩ := h
 refine ⟨σ1, ?_, h2⟩
 unfold evHead
 simp only [hd, if_true, wantedPV, hb, hw]
 exact h1
theorem WH.by0 {op : Op} {d : Option Nat} {t : Nat} {want : Bool} {wr : Bool} {rest : List POp} {σ S} {K : (Nat → PV) → Prop} (hd : dstOk fr.ntmps d = true)
  (hb : σ t = .tup []) (h : WH env fr rest (upd σ d (.tup [])) S K) : WH env fr (⟨d, op, some (t, want), wr⟩ :: rest) σ S K := by
 obtain ⟨σ1, h1, h2⟩ := h
 refine ⟨σ1, ?_, h2⟩
 unfold evHead
 simp only [hd, if_true, wantedPV, hb]
 exact h1
theorem evHead_append (ctx : Ctx) (call : Call') (fr : Fr) (S : List SObj) : ∀ (l r : List POp) (σ : Nat → PV),
  evHead ctx call fr S (l ++ r) σ = match evHead ctx call fr S l σ with | some σ' => evHead ctx call fr S r σ' | none => none
 | [], r, σ => rfl
 | p :: l, r, σ => by
  rw [List.cons_append, evHead, evHead]
  split
  ·split
   ·rfl
   ·exact evHead_append ctx call fr S l r _
   ·split
    ·rfl
    ·split
     ·exact evHead_append ctx call fr S l r _
     ·rfl
  ·rfl
theorem WH.split (n : Nat) {l : List POp} {σ S} {K : (Nat → PV) → Prop} (P : (Nat → PV) → Prop) (h : WH env fr (l.take n) σ S P) (h2 : ∀ σ', P σ' → WH env fr (l.drop n) σ' S K) : WH env fr l σ S K := by
 obtain ⟨σ1, h1, hp⟩ := h
 obtain ⟨σ2, h3, h4⟩ := h2 _ hp
 refine ⟨σ2, ?_, h4⟩
 rw [← List.take_append_drop n l, evHead_append, h1]
 exact h3
/-! Code -/
theorem WC.skip {σ S e} {K : KX} (h : K .normal σ S e) : WC env fr .skip σ S e K := ⟨_, _, _, _, rfl, h⟩
theorem WC.ret {σ S e} {K : KX} (h : K .ret σ S e) : WC env fr .ret σ S e K := ⟨_, _, _, _, rfl, h⟩
theorem WC.exit {i : Nat} {σ S e} {K : KX} (h : K (.exit i) σ S e) : WC env fr (.exit i) σ S e K := ⟨_, _, _, _, rfl, h⟩
theorem WC.region {ops : List POp} {σ S e} {K : KX} (h : WO env fr ops σ S e fun σ' S' e' => K .normal σ' S' e') : WC env fr (.region ops) σ S e K := by
 obtain ⟨σ1, S1, e1, h1, h2⟩ := h
 refine ⟨_, _, _, _, ?_, h2⟩
 simp only [codeW, h1]
theorem WC.draw {hd tl : List POp} {σ S e} {K : KX} (h : WH env fr hd σ S fun σ' => WO env fr tl σ' S e fun σ' S' e' => K .normal σ' S' e') : WC env fr (.draw hd tl) σ S e K := by
 obtain ⟨σ1, h1, σ2, S2, e2, h2, h3⟩ := h
 refine ⟨_, _, _, _, ?_, h3⟩
 simp only [codeW, h1, h2]
theorem WC.mono {c : PC} {σ S e} {K K' : KX} (h : WC env fr c σ S e K) (hk : ∀ x σ' S' e', K x σ' S' e' → K' x σ' S' e') : WC env fr c σ S e K' := by
 obtain ⟨x, σ1, S1, e1, h1, h2⟩ := h
 exact ⟨_, _, _, _, h1, hk _ _ _ _ h2⟩
def KX.seq (K : KX) (P : KS) : KX := fun x σ S e => match x with
 | .normal => P σ S e
 | .exit i => K (.exit i) σ S e
 | .ret => K .ret σ S e
theorem WC.seqJ {a b : PC} {σ S e} {K : KX} (P : KS) (h : WC env fr a σ S e (K.seq P)) (h2 : ∀ σ' S' e', P σ' S' e' → WC env fr b σ' S' e' K) : WC env fr (.seq a b) σ S e K := by
 obtain ⟨x, σ1, S1, e1, h1, hp⟩ := h
 cases x with
 | normal =>
  obtain ⟨y, σ2, S2, e2, h3, h4⟩ := h2 _ _ _ hp
  exact ⟨_, _, _, _, by simp only [codeW, h1]; exact h3, h4⟩
 | exit i => exact ⟨_, _, _, _, by simp only [codeW, h1], hp⟩
 | ret => exact ⟨_, _, _, _, by simp only [codeW, h1], hp⟩
theorem WC.seq {a b : PC} {σ S e} {K : KX} (h : WC env fr a σ S e (K.seq fun σ' S' e' => WC env fr b σ' S' e' K)) : WC env fr (.seq a b) σ S e K :=
 WC.seqJ _ h fun _ _ _ h => h
theorem WC.seqR {ops : List POp} {b : PC} {σ S e} {K : KX} (h : WO env fr ops σ S e fun σ' S' e' => WC env fr b σ' S' e' K) : WC env fr (.seq (.region ops) b) σ S e K :=
 WC.seq (WC.region h)
theorem WC.condT {c : Operand} {a b : PC} {t : Bool} {σ S e} {K : KX} (hc : opd σ c = .bool t) (ht : t = true) (h : WC env fr a σ S e K) : WC env fr (.cond c a b) σ S e K := by
 obtain ⟨x, σ1, S1, e1, h1, h2⟩ := h
 exact ⟨_, _, _, _, by simp only [codeW, hc, ht, if_true]; exact h1, h2⟩
theorem WC.condF {c : Operand} {a b : PC} {t : Bool} {σ S e} {K : KX} (hc : opd σ c = .bool t) (ht : t = false) (h : WC env fr b σ S e K) : WC env fr (.cond c a b) σ S e K := by
 obtain ⟨x, σ1, S1, e1, h1, h2⟩ := h
 exact ⟨_, _, _, _, by simp only [codeW, hc, ht, Bool.false_eq_true, if_false]; exact h1, h2⟩
def KX.block (K : KX) (id : Nat) : KX := fun x σ S e => match x with
 | .normal => K .normal σ S e
 | .exit i => if i = id then K .normal σ S e else K (.exit i) σ S e
 | .ret => K .ret σ S e
theorem WC.block {id : Nat} {c : PC} {σ S e} {K : KX} (h : WC env fr c σ S e (K.block id)) : WC env fr (.block id c) σ S e K := by
 obtain ⟨x, σ1, S1, e1, h1, h2⟩ := h
 cases x with
 | normal => exact ⟨_, _, _, _, by simp only [codeW, h1], h2⟩
 | exit i =>
  simp only [KX.block] at h2
  split at h2
  ·rename_i hi; exact ⟨_, _, _, _, by simp only [codeW, h1, hi, if_true], h2⟩
  ·rename_i hi; exact ⟨_, _, _, _, by simp only [codeW, h1, hi, if_false], h2⟩
 | ret => exact ⟨_, _, _, _, by simp only [codeW, h1], h2⟩
def KX.loop (K : KX) (P : KS) : KX := fun x σ S e => match x with
 | .normal => P σ S e
 | .exit i => K (.exit i) σ S e
 | .ret => K .ret σ S e
theorem WC.loop {c : PC} {σ S e} {K : KX} (h : WC env fr c σ S e (K.seq fun σ' S' e' => WC env fr (.loop c) σ' S' e' K)) : WC env fr (.loop c) σ S e K := by
 obtain ⟨x, σ1, S1, e1, h1, h2⟩ := h
 cases x with
 | normal =>
  obtain ⟨y, σ2, S2, e2, h3, h4⟩ := h2
  exact ⟨_, _, _, _, loopw_more h1 h3, h4⟩
 | exit i => exact ⟨_, _, _, _, loopw_exit h1, h2⟩
 | ret => exact ⟨_, _, _, _, loopw_ret h1, h2⟩
/-! Bodies -/
def WB (env : Env) (pf : PFn) (args : List PV) (S : List SObj) (K : KV) : Prop :=
 WC env ⟨pf.ntmps, S.length⟩ pf.body (fun i => args.getD i (.tup [])) S false fun x σ S' e => match x with
  | .normal => ∃ vs, resultsOf env.ctx S' σ pf.results = some vs ∧ if pf.raw then K (tupled vs) S' e else K (tupled (frzL vs S').1) (frzL vs S').2 e
  | .exit _ => False
  | .ret => ∃ vs, resultsOf env.ctx S' σ pf.results = some vs ∧ if pf.raw then K (tupled vs) S' e else K (tupled (frzL vs S').1) (frzL vs S').2 e
theorem WB.run {pf : PFn} {args : List PV} {S : List SObj} {K : KV} (h : WB env pf args S K) : ∃ v S' e, bodyW env.ctx (evw env) pf args S = some (v, S', e) ∧ K v S' e := by
 obtain ⟨x, σ1, S1, e1, h1, h2⟩ := h
 have h1' : codeW env.ctx (evw env) ⟨pf.ntmps, S.length⟩ pf.body (fun i => args.getD i (.tup []), S, false) = some (x, σ1, S1, e1) := h1
 cases x with
 | normal =>
  obtain ⟨vs, h3, h4⟩ := h2
  split at h4
  ·rename_i hr; exact ⟨_, _, _, by unfold bodyW; simp only [h1', h3, hr, if_true], h4⟩
  ·rename_i hr; exact ⟨_, _, _, by unfold bodyW; simp only [h1', h3, if_neg hr], h4⟩
 | exit i => exact h2.elim
 | ret =>
  obtain ⟨vs, h3, h4⟩ := h2
  split at h4
  ·rename_i hr; exact ⟨_, _, _, by unfold bodyW; simp only [h1', h3, hr, if_true], h4⟩
  ·rename_i hr; exact ⟨_, _, _, by unfold bodyW; simp only [h1', h3, if_neg hr], h4⟩
theorem evw_pureW {f : FuncId} {pf : PFn} (hi : env.intr f = none) (hf : env.fn f = some pf) {args bs : List PV} {S : List SObj} {v' : PV}
  (ha : args.map PV.strip = bs) (hl : bs.length ≤ pf.ntmps) (hc : cleanL bs = true) (hvc : v'.clean = true)
  (h : WB env pf bs [] fun v _ _ => v.strip = v') : evw env f args S = some (v', S, false) := by
 obtain ⟨w, S1, e1, hb, hv⟩ := h.run
 obtain ⟨k, hk⟩ := body_lim hb
 refine lim_of (k + 1) fun k' hk' => ?_
 obtain ⟨j, rfl⟩ : ∃ j, k' = j + 1 := ⟨k' - 1, by omega⟩
 have hl' : args.length ≤ pf.ntmps := by rw [← ha] at hl; simpa using hl
 simp only [ev, hi, hf, hl', if_true, ha, hc, hk j (by omega), hv, hvc]
theorem evw_storeW {f : FuncId} {pf : PFn} (hi : env.intr f = none) (hf : env.fn f = some pf) {args : List PV} {S : List SObj} {K : PV × List SObj × Bool → Prop}
  (hl : args.length ≤ pf.ntmps) (hc : cleanL (args.map PV.strip) = false)
  (h : WB env pf args S fun v S' e => K (leave S.length v S' e)) : ∃ r, evw env f args S = some r ∧ K r := by
 obtain ⟨w, S1, e1, hb, hv⟩ := h.run
 obtain ⟨k, hk⟩ := body_lim hb
 refine ⟨_, lim_of (k + 1) fun k' hk' => ?_, hv⟩
 obtain ⟨j, rfl⟩ : ∃ j, k' = j + 1 := ⟨k' - 1, by omega⟩
 simp only [ev, hi, hf, hl, if_true, hc, hk j (by omega), Bool.false_eq_true, if_false]
end Go.Pam
namespace Go.Pam
abbrev Str := List UInt8
abbrev Sl (α : Type) := Option (List α)
def Sl.l {α : Type} (x : Sl α) : List α := x.getD []
def Sl.len {α : Type} (x : Sl α) : Int := (x.l.length : Nat)
def Sl.at? {α : Type} (x : Sl α) (i : Int) : Option α := if 0 ≤ i then x.l[i.toNat]? else none
def Sl.isNil {α : Type} (x : Sl α) : Bool := x.isNone
def Sl.sub? {α : Type} (x : Sl α) (l h : Int) : Option (Sl α) :=
 if 0 ≤ l ∧ l ≤ h ∧ h ≤ x.l.length then some (x.map fun xs => (xs.take h.toNat).drop l.toNat) else none
def Sl.app? {α : Type} (bytes : Nat) (x : Sl α) (ys : List α) : Option (Sl α) :=
 if (x.l.length + ys.length) * bytes ≤ 2 ^ 47 then some (if ys.isEmpty then x else some (x.l ++ ys)) else none
def Str.len (s : Str) : Int := (s.length : Nat)
def Str.at? (s : Str) (i : Int) : Option Int := if 0 ≤ i then (s[i.toNat]?).map fun b => (b.toNat : Int) else none
def Str.sub? (s : Str) (l h : Int) : Option Str := if 0 ≤ l ∧ l ≤ h ∧ h ≤ s.length then some ((s.take h.toNat).drop l.toNat) else none
def Str.app? (a b : Str) : Option Str := if ((a.length + b.length : Nat) : Int) > IntKind.i64.max then none else some (a ++ b)
def Str.bytes (s : Str) : Sl Int := some (s.map fun b => (b.toNat : Int))
def Str.of (x : Sl Int) : Str := x.l.map fun n => UInt8.ofNat n.toNat
def ad (k : IntKind) (x y : Int) : Int := k.wrap (x + y)
def sb (k : IntKind) (x y : Int) : Int := k.wrap (x - y)
def ml (k : IntKind) (x y : Int) : Int := k.wrap (x * y)
def cv (k : IntKind) (x : Int) : Int := k.wrap x
def bOr (k : IntKind) (x y : Int) : Int := k.wrap (BitVec.ofInt k.bits x ||| BitVec.ofInt k.bits y).toNat
def bXor (k : IntKind) (x y : Int) : Int := k.wrap (BitVec.ofInt k.bits x ^^^ BitVec.ofInt k.bits y).toNat
def shl? (k : IntKind) (x y : Int) : Option Int := if y < 0 then none else some (k.wrap (x * 2 ^ (min y.toNat k.bits)))
def shr? (k : IntKind) (x y : Int) : Option Int := if y < 0 then none else some (x.fdiv (2 ^ (min y.toNat k.bits)))
def imin (x y : Int) : Int := if y < x then y else x
def imax (x y : Int) : Int := if x < y then y else x
theorem bindS {α β : Type} {x : Option α} {f : α → Option β} {r : β} (h : x.bind f = some r) : ∃ y, x = some y ∧ f y = some r := by
 cases x with
 | none => cases h
 | some a => exact ⟨a, rfl, h⟩
theorem iteS {α : Type} {c : Bool} {a b : Option α} {r : α} (h : (if c = true then a else b) = some r) : c = true ∧ a = some r ∨ c = false ∧ b = some r := by
 cases c
 ·exact .inr ⟨rfl, h⟩
 ·exact .inl ⟨rfl, h⟩
inductive Out (R V : Type) where
 | ret (r : R)
 | brk (v : V)
/-! Slices -/
abbrev eI (k : IntKind) (n : Int) : PV := .int k n
abbrev eB (b : Bool) : PV := .bool b
abbrev eS (s : Str) : PV := .str s
def encSl {α : Type} (f : α → PV) : Sl α → PV
 | none => .nils
 | some l => .lst (l.map f) .none
def IsSl {α : Type} (f : α → PV) (x : Sl α) (v : PV) : Prop := match x with
 | none => v = .nils
 | some l => ∃ tag, v = .lst (l.map f) tag
theorem isSl_enc {α : Type} (f : α → PV) (x : Sl α) : IsSl f x (encSl f x) := by
 cases x
 ·rfl
 ·exact ⟨_, rfl⟩
theorem isSl_nil {α : Type} (f : α → PV) : IsSl f none .nils := rfl
theorem IsSl.strip {α : Type} {f : α → PV} {x : Sl α} {v : PV} (h : IsSl f x v) : v.strip = encSl f x := by
 cases x
 ·cases h; rfl
 ·obtain ⟨tag, rfl⟩ := h; rfl
theorem IsSl.strip1 {α : Type} {f : α → PV} {x : Sl α} {v : PV} (h : IsSl f x v) : v.strip1 = encSl f x := by
 cases x
 ·cases h; rfl
 ·obtain ⟨tag, rfl⟩ := h; rfl
theorem IsSl.strip2 {α : Type} {f : α → PV} {x : Sl α} {v : PV} (h : IsSl f x v) : v.strip2 = encSl f x := by
 cases x
 ·cases h; rfl
 ·obtain ⟨tag, rfl⟩ := h; rfl
theorem strip_enc {α : Type} (f : α → PV) (x : Sl α) : (encSl f x).strip = encSl f x := (isSl_enc f x).strip
theorem strip2_enc {α : Type} (f : α → PV) (x : Sl α) : (encSl f x).strip2 = encSl f x := (isSl_enc f x).strip2
theorem cleanL_map {α : Type} {f : α → PV} (h : ∀ a, (f a).clean = true) : ∀ (l : List α), cleanL (l.map f) = true
 | [] => rfl
 | a :: l => by simp [cleanL, h a, cleanL_map h l]
theorem clean_encSl {α : Type} {f : α → PV} (h : ∀ a, (f a).clean = true) (x : Sl α) : (encSl f x).clean = true := by
 cases x with
 | none => rfl
 | some l => simp [encSl, PV.clean, cleanL_map h l]
def One (v : PV) : Prop := v.storable = true ∧ v.cells = [v]
theorem IsSl.one {α : Type} {f : α → PV} {x : Sl α} {v : PV} (h : IsSl f x v) : One v := by
 cases x
 ·cases h; exact ⟨rfl, rfl⟩
 ·obtain ⟨tag, rfl⟩ := h; exact ⟨rfl, rfl⟩
theorem sized_map {α : Type} {f : α → PV} {n : Nat} (h : ∀ a, (f a).cells.length = n) : ∀ (l : List α), sizedAll n (l.map f) = true
 | [] => rfl
 | a :: l => by simp [sizedAll, h a, sized_map h l]
variable {env : Env} {fr : Fr} {σ : Nat → PV} {S : List SObj}
theorem stp_len {α : Type} {f : α → PV} {x : Sl α} {v : PV} {a : Operand} {t : TypeId} {e : TypeId} (ho : opd σ a = v) (h : IsSl f x v) (ht : (env.ctx.ty t).map (·.und) = some (.slice e)) :
  stp env fr σ S (.call ⟨.builtin .len, #[a], #[t]⟩) = some (.int .i64 (Sl.len x), S, false) := by
 cases hti : env.ctx.ty t with
 | none => rw [hti] at ht; cases ht
 | some ti =>
  rw [hti] at ht
  have hu : ti.und = .slice e := by simpa using ht
  cases x with
  | none => cases h; simp [stp, evStep, callPV, ho, lenPV, hti, hu, Sl.len, Sl.l]
  | some l => obtain ⟨tag, rfl⟩ := h; simp [stp, evStep, callPV, ho, lenPV, hti, hu, Sl.len, Sl.l]
theorem stp_idxStr {s : Str} {a i : Operand} {t : TypeId} {k : IntKind} {n y : Int} (ho : opd σ a = .str s) (hi : opd σ i = .int k n) (ht : (env.ctx.ty t).map (·.und) = some .string) (hy : Str.at? s n = some y) :
  stp env fr σ S (.index t a i) = some (.int .u8 y, S, false) := by
 cases hti : env.ctx.ty t with
 | none => rw [hti] at ht; cases ht
 | some ti =>
  rw [hti] at ht
  have hu : ti.und = .string := by simpa using ht
  unfold Str.at? at hy
  split at hy
  ·rename_i h0
   simp only [stp, evStep, hi, ho, indexPV, hti, hu, h0, if_true]
   cases hb : s[n.toNat]? with
   | none => rw [hb] at hy; cases hy
   | some b => rw [hb] at hy; simp only [Option.map_some, Option.some.injEq] at hy; subst hy; rfl
  ·cases hy
theorem stp_idxAddr {α : Type} {f : α → PV} {x : Sl α} {v : PV} {a i : Operand} {t e : TypeId} {k : IntKind} {n : Int} {y : α} {sz : Nat} (ho : opd σ a = v) (h : IsSl f x v) (hi : opd σ i = .int k n)
  (ht : (env.ctx.ty t).map (·.und) = some (.slice e)) (he : (env.ctx.ty e).map (·.size) = some sz) (hy : Sl.at? x n = some y) {cs : List PV} (hcs : (f y).cells = cs) (hc : cs.length = sz) :
  stp env fr σ S (.indexAddr t a i) = some (.iptr cs 0, S, false) := by
 subst hcs
 cases hti : env.ctx.ty t with
 | none => rw [hti] at ht; cases ht
 | some ti =>
  rw [hti] at ht
  have hu : ti.und = .slice e := by simpa using ht
  cases hei : env.ctx.ty e with
  | none => rw [hei] at he; cases he
  | some ei =>
   rw [hei] at he
   have hs : ei.size = sz := by simpa using he
   unfold Sl.at? at hy
   split at hy
   ·rename_i h0
    cases x with
    | none => simp [Sl.l] at hy
    | some l =>
     obtain ⟨tag, rfl⟩ := h
     simp only [Sl.l, Option.getD_some] at hy
     simp only [stp, evStep, hi, ho, indexAddrPV, hti, hu, hei, h0, if_true, List.getElem?_map, hy, Option.map_some, hc, hs]
   ·cases hy
theorem stp_subStr {s y : Str} {a : Operand} {lo hi : Option Operand} {t : TypeId} {l h : Int} (ho : opd σ a = .str s) (hl : boundOf (lo.map (opd σ)) 0 = some l) (hh : boundOf (hi.map (opd σ)) s.length = some h)
  (ht : (env.ctx.ty t).map (·.und) = some .string) (hy : Str.sub? s l h = some y) :
  stp env fr σ S (.slice t a lo hi none) = some (.str y, S, false) := by
 cases hti : env.ctx.ty t with
 | none => rw [hti] at ht; cases ht
 | some ti =>
  rw [hti] at ht
  have hu : ti.und = .string := by simpa using ht
  unfold Str.sub? at hy
  split at hy
  ·rename_i h0
   injection hy with hy; subst hy
   simp only [stp, evStep, ho, slicePV, hti, hu, hl, hh, Option.map_none]
   rw [if_pos h0]
   rfl
  ·cases hy
/-! The heap -/
def tipOf : PV → Option Nat
 | .lst _ (.tip id) => some id
 | _ => none
inductive App (S : List SObj) (sz : Nat) : PV → Prop
 | nil : App S sz .nils
 | full (xs : List PV) (h : sizedAll sz xs = true) : App S sz (.lst xs .full)
 | tip (xs : List PV) (id : Nat) (h : S[id]? = some (.tip xs.length sz)) : App S sz (.lst xs (.tip id))
def SObj.kind : SObj → Nat
 | .cells _ => 0
 | .map _ => 0
 | .row _ _ _ => 1
 | .tip _ _ => 2
 | .dead => 3
 | .bld _ _ _ => 0
 | .buf _ _ => 1
 | .iter _ _ _ => 0
def rowAt : PV → Option Nat
 | .rsl id _ => some id
 | .ptr id _ => some id
 | _ => none
structure Hp (S0 : List SObj) (R : List Nat) (S : List SObj) (C : List (Nat × SObj)) (A : List (PV × Nat)) (W : List (PV × SObj)) : Prop where
 len : S0.length ≤ S.length
 old : ∀ i, i < S0.length → i ∉ R → S[i]? = S0[i]?
 cel : ∀ p ∈ C, (S0.length ≤ p.1 ∨ p.1 ∈ R) ∧ S[p.1]? = some p.2 ∧ p.2.kind = 0
 nod : C.Pairwise fun p q => p.1 ≠ q.1
 app : ∀ q ∈ A, App S q.2 q.1 ∧ ∀ id, tipOf q.1 = some id → S0.length ≤ id
 dis : A.Pairwise fun p q => tipOf p.1 = none ∨ tipOf p.1 ≠ tipOf q.1
 row : ∀ q ∈ W, ∀ id, rowAt q.1 = some id → (S0.length ≤ id ∨ id ∈ R) ∧ S[id]? = some q.2 ∧ q.2.kind = 1
 rdis : W.Pairwise fun p q => rowAt p.1 = none ∨ rowAt p.1 ≠ rowAt q.1
theorem Hp.start (S0 : List SObj) : Hp S0 [] S0 [] [] [] := ⟨Nat.le_refl _, fun _ _ _ => rfl, by simp, .nil, by simp, .nil, by simp, .nil⟩
theorem Hp.start1 {S0 : List SObj} {id : Nat} {o : SObj} (h : S0[id]? = some o) (hk : o.kind = 0) : Hp S0 [id] S0 [(id, o)] [] [] :=
 ⟨Nat.le_refl _, fun _ _ _ => rfl, by simpa using ⟨h, hk⟩, by simp, by simp, .nil, by simp, .nil⟩
variable {S0 : List SObj} {R : List Nat} {C : List (Nat × SObj)} {A : List (PV × Nat)} {W : List (PV × SObj)}
theorem Hp.get (h : Hp S0 R S C A W) (i : Nat) {id : Nat} {o : SObj} (hi : C[i]? = some (id, o)) : S[id]? = some o :=
 (h.cel _ (List.mem_of_getElem? hi)).2.1
theorem Hp.getW (h : Hp S0 R S C A W) (i : Nat) {v : PV} {o : SObj} {id : Nat} (hi : W[i]? = some (v, o)) (hv : rowAt v = some id) : S[id]? = some o :=
 (h.row _ (List.mem_of_getElem? hi) id hv).2.1
theorem App.keep {S S' : List SObj} {sz : Nat} {v : PV} (h : App S sz v) (hk : ∀ id, tipOf v = some id → S'[id]? = S[id]?) : App S' sz v := by
 cases h with
 | nil => exact .nil
 | full xs h => exact .full xs h
 | tip xs id h => exact .tip xs id ((hk id rfl).trans h)
theorem App.lt {S : List SObj} {sz : Nat} {v : PV} (h : App S sz v) {id : Nat} (hi : tipOf v = some id) : id < S.length ∧ ∃ n, S[id]? = some (.tip n sz) := by
 cases h with
 | nil => cases hi
 | full xs h => cases hi
 | tip xs i h => injection hi with hi; subst hi; exact ⟨(List.getElem?_eq_some_iff.1 h).1, _, h⟩
theorem lt_of_get {S : List SObj} {i : Nat} {o : SObj} (h : S[i]? = some o) : i < S.length := (List.getElem?_eq_some_iff.1 h).1
theorem Hp.more (h : Hp S0 R S C A W) (o : SObj) : Hp S0 R (S ++ [o]) C A W := by
 have hl := h.len
 refine ⟨by simp; omega, fun i hi hr => ?_, fun p hp => ⟨(h.cel p hp).1, ?_, (h.cel p hp).2.2⟩, h.nod, fun q hq => ⟨(h.app q hq).1.keep fun id hid => ?_, (h.app q hq).2⟩, h.dis, fun q hq id hid => ⟨(h.row q hq id hid).1, ?_, (h.row q hq id hid).2.2⟩, h.rdis⟩
 ·rw [List.getElem?_append_left (by omega)]; exact h.old i hi hr
 ·rw [List.getElem?_append_left (lt_of_get (h.cel p hp).2.1)]; exact (h.cel p hp).2.1
 ·rw [List.getElem?_append_left ((h.app q hq).1.lt hid).1]
 ·rw [List.getElem?_append_left (lt_of_get (h.row q hq id hid).2.1)]; exact (h.row q hq id hid).2.1
theorem Hp.pushO (h : Hp S0 R S C A W) (o : SObj) (hk : o.kind = 0) : Hp S0 R (S ++ [o]) ((S.length, o) :: C) A W := by
 have hn := h.more o
 refine ⟨hn.len, hn.old, fun p hp => ?_, List.pairwise_cons.2 ⟨fun p hp => ?_, h.nod⟩, hn.app, hn.dis, hn.row, hn.rdis⟩
 ·rcases List.mem_cons.1 hp with rfl | hp
  ·exact ⟨.inl h.len, by simp, hk⟩
  ·exact hn.cel p hp
 ·have := lt_of_get (h.cel p hp).2.1; simp; omega
theorem Hp.push (h : Hp S0 R S C A W) (cs : List PV) : Hp S0 R (S ++ [.cells cs]) ((S.length, .cells cs) :: C) A W := h.pushO _ rfl
theorem mem_set_of {α : Type} {l : List α} {i : Nat} {x y : α} (h : y ∈ l.set i x) : y = x ∨ ∃ j, j ≠ i ∧ l[j]? = some y := by
 obtain ⟨j, hj⟩ := List.mem_iff_getElem?.1 h
 rw [List.getElem?_set] at hj
 split at hj
 ·split at hj
  ·injection hj with hj; exact .inl hj.symm
  ·cases hj
 ·rename_i hne; exact .inr ⟨j, fun h => hne h.symm, hj⟩
theorem pw_get {α : Type} {P : α → α → Prop} {l : List α} (h : l.Pairwise P) (hs : ∀ a b, P a b → P b a) {i j : Nat} {a b : α} (hi : l[i]? = some a) (hj : l[j]? = some b) (hne : i ≠ j) : P a b := by
 obtain ⟨h1, rfl⟩ := List.getElem?_eq_some_iff.1 hi
 obtain ⟨h2, rfl⟩ := List.getElem?_eq_some_iff.1 hj
 rcases Nat.lt_or_gt_of_ne hne with hlt | hlt
 ·exact List.pairwise_iff_getElem.1 h i j h1 h2 hlt
 ·exact hs _ _ (List.pairwise_iff_getElem.1 h j i h2 h1 hlt)
theorem pw_set {α : Type} {P : α → α → Prop} (hs : ∀ a b, P a b → P b a) {l : List α} (h : l.Pairwise P) {i : Nat} {x : α} (hx : ∀ j y, j ≠ i → l[j]? = some y → P x y) : (l.set i x).Pairwise P := by
 rw [List.pairwise_iff_getElem]
 intro a b ha hb hab
 have ha' : a < l.length := by simpa using ha
 have hb' : b < l.length := by simpa using hb
 rw [List.getElem_set, List.getElem_set]
 split
 ·rename_i h1
  split
  ·omega
  ·rename_i h2
   exact hx b _ (by omega) (List.getElem?_eq_getElem hb')
 ·split
  ·rename_i h1 h2
   exact hs _ _ (hx a _ (by omega) (List.getElem?_eq_getElem ha'))
  ·exact List.pairwise_iff_getElem.1 h a b ha' hb' hab
theorem Hp.setO (h : Hp S0 R S C A W) (i : Nat) {id : Nat} {o : SObj} (hi : C[i]? = some (id, o)) (o' : SObj) (hk : o'.kind = 0) : Hp S0 R (S.set id o') (C.set i (id, o')) A W := by
 have hg := h.get i hi
 have hlt := lt_of_get hg
 have hm := h.cel _ (List.mem_of_getElem? hi)
 have hm0 : o.kind = 0 := hm.2.2
 refine ⟨by simpa using h.len, fun j hj hr => ?_, ?_, ?_, fun q hq => ⟨(h.app q hq).1.keep fun k hk => ?_, (h.app q hq).2⟩, h.dis, fun q hq k hk => ⟨(h.row q hq k hk).1, ?_, (h.row q hq k hk).2.2⟩, h.rdis⟩
 ·rw [List.getElem?_set]
  split
  ·rename_i he; subst he
   rcases hm.1 with h1 | h1
   ·simp only at h1; omega
   ·exact absurd h1 hr
  ·exact h.old j hj hr
 ·intro p hp
  rcases mem_set_of hp with rfl | ⟨j, hne, hj⟩
  ·exact ⟨hm.1, by simp [hlt], hk⟩
  ·have hp' := h.cel p (List.mem_of_getElem? hj)
   refine ⟨hp'.1, ?_, hp'.2.2⟩
   have : p.1 ≠ id := pw_get (P := fun p q : Nat × SObj => p.1 ≠ q.1) h.nod (fun _ _ h => Ne.symm h) hj hi hne
   rw [List.getElem?_set, if_neg (Ne.symm this)]
   exact hp'.2.1
 ·exact pw_set (fun _ _ h => Ne.symm h) h.nod fun j y hne hj => (show id ≠ y.1 from Ne.symm (pw_get (P := fun p q : Nat × SObj => p.1 ≠ q.1) h.nod (fun _ _ h => Ne.symm h) hj hi hne))
 ·obtain ⟨_, n, hn⟩ := (h.app q hq).1.lt hk
  have : id ≠ k := by rintro rfl; rw [hn] at hg; injection hg with hg; subst hg; cases hm0
  rw [List.getElem?_set, if_neg this]
 ·obtain ⟨_, hn, hk1⟩ := h.row q hq k hk
  have : id ≠ k := by rintro rfl; rw [hn] at hg; injection hg with hg; subst hg; omega
  rw [List.getElem?_set, if_neg this]; exact hn
theorem Hp.set (h : Hp S0 R S C A W) (i : Nat) {id : Nat} {cs : List PV} (hi : C[i]? = some (id, .cells cs)) (cs' : List PV) : Hp S0 R (S.set id (.cells cs')) (C.set i (id, .cells cs')) A W := h.setO i hi _ rfl
theorem Hp.sub (h : Hp S0 R S C A W) {C' : List (Nat × SObj)} {A' : List (PV × Nat)} {W' : List (PV × SObj)} (hC : C'.Sublist C) (hA : A'.Sublist A) (hW : W'.Sublist W) : Hp S0 R S C' A' W' :=
 ⟨h.len, h.old, fun p hp => h.cel p (hC.subset hp), h.nod.sublist hC, fun q hq => h.app q (hA.subset hq), h.dis.sublist hA, fun q hq => h.row q (hW.subset hq), h.rdis.sublist hW⟩
theorem Hp.addNil (h : Hp S0 R S C A W) (sz : Nat) : Hp S0 R S C ((.nils, sz) :: A) W :=
 by
  refine { h with app := fun q hq => ?_, dis := List.pairwise_cons.2 ⟨fun _ _ => .inl rfl, h.dis⟩ }
  rcases List.mem_cons.1 hq with rfl | hq
  ·exact ⟨.nil, fun id hi => by cases hi⟩
  ·exact h.app q hq
theorem Hp.addTip (h : Hp S0 R S C A W) (xs : List PV) (sz : Nat) : Hp S0 R (S ++ [.tip xs.length sz]) C ((.lst xs (.tip S.length), sz) :: A) W := by
 have hn := h.more (.tip xs.length sz)
 have hl := h.len
 refine { hn with app := fun q hq => ?_, dis := List.pairwise_cons.2 ⟨fun q hq => .inr fun he => ?_, h.dis⟩ }
 ·rcases List.mem_cons.1 hq with rfl | hq
  ·exact ⟨.tip xs _ (by simp), fun id hi => by injection hi with hi; omega⟩
  ·exact hn.app q hq
 ·have := ((h.app q hq).1.lt (id := S.length) he.symm).1
  omega
theorem app_mem {q : PV × Nat} {j : Nat} (hj : A[j]? = some q) : q ∈ A := List.mem_of_getElem? hj
theorem tips_dis (h : Hp S0 R S C A W) {j : Nat} {v : PV} {sz id : Nat} (hj : A[j]? = some (v, sz)) (hv : tipOf v = some id) : ∀ k q, k ≠ j → A[k]? = some q → tipOf q.1 ≠ some id := by
 intro k q hne hk he
 have := pw_get (P := fun p q : PV × Nat => tipOf p.1 = none ∨ tipOf q.1 = none ∨ tipOf p.1 ≠ tipOf q.1) (l := A)
  (h.dis.imp fun {a b} hab => hab.elim .inl fun h => .inr (.inr h)) (fun a b hab => by
   rcases hab with h | h | h
   ·exact .inr (.inl h)
   ·exact .inl h
   ·exact .inr (.inr (Ne.symm h))) hk hj hne
 rcases this with h | h | h
 ·rw [h] at he; cases he
 ·simp only at h; rw [hv] at h; cases h
 ·simp only [hv] at h; exact h he
theorem pw_opt {α : Type} {f : α → Option Nat} {l : List α} (h : l.Pairwise fun p q => f p = none ∨ f p ≠ f q) {i : Nat} {x : α} (hx : ∀ n, f x = some n → ∀ k q, k ≠ i → l[k]? = some q → f q ≠ some n) : (l.set i x).Pairwise fun p q => f p = none ∨ f p ≠ f q := by
 rw [List.pairwise_iff_getElem]
 intro a b ha hb' hab
 have ha2 : a < l.length := by simpa using ha
 have hb2 : b < l.length := by simpa using hb'
 rw [List.getElem_set, List.getElem_set]
 split
 ·rename_i h1
  split
  ·omega
  ·cases hn : f x with
   | none => exact .inl rfl
   | some n => exact .inr fun he => hx n hn b _ (by omega) (List.getElem?_eq_getElem hb2) he.symm
 ·split
  ·rename_i h1 h2
   cases hn : f x with
   | none =>
    cases hq : f l[a] with
    | none => exact .inl rfl
    | some n => exact .inr fun he => by cases he
   | some n => exact .inr fun he => hx n hn a _ (by omega) (List.getElem?_eq_getElem ha2) he
  ·exact List.pairwise_iff_getElem.1 h a b ha2 hb2 hab
theorem Hp.grow (h : Hp S0 R S C A W) (j : Nat) {xs : List PV} {id sz : Nat} (hj : A[j]? = some (.lst xs (.tip id), sz)) (ys : List PV) :
  Hp S0 R (S.set id (.tip (xs.length + ys.length) sz)) C (A.set j (.lst (xs ++ ys) (.tip id), sz)) W := by
 have hm := h.app _ (app_mem hj)
 obtain ⟨hlt, n, hn⟩ := hm.1.lt (id := id) rfl
 have hb := hm.2 id rfl
 have hdis := tips_dis h hj (id := id) rfl
 refine ⟨by simpa using h.len, fun i hi hr => ?_, fun p hp => ⟨(h.cel p hp).1, ?_, (h.cel p hp).2.2⟩, h.nod, ?_, pw_opt h.dis (x := (PV.lst (xs ++ ys) (.tip id), sz)) fun n hn k q hne hk => by injection hn with hn; subst hn; exact hdis k q hne hk,
  fun q hq k hk => ⟨(h.row q hq k hk).1, ?_, (h.row q hq k hk).2.2⟩, h.rdis⟩
 ·rw [List.getElem?_set, if_neg (by omega)]; exact h.old i hi hr
 ·obtain ⟨_, hc, hk⟩ := h.cel p hp
  have : id ≠ p.1 := by rintro rfl; rw [hc] at hn; injection hn with hn; rw [hn] at hk; cases hk
  rw [List.getElem?_set, if_neg this]; exact hc
 ·intro q hq
  rcases mem_set_of hq with rfl | ⟨k, hne, hk⟩
  ·exact ⟨.tip _ _ (by simp [hlt]), fun i hi => by injection hi with hi; omega⟩
  ·have := h.app q (app_mem hk)
   refine ⟨this.1.keep fun i hi => ?_, this.2⟩
   have : id ≠ i := by rintro rfl; exact hdis k q hne hk hi
   rw [List.getElem?_set, if_neg this]
 ·obtain ⟨_, hc, hkk⟩ := h.row q hq k hk
  have : id ≠ k := by rintro rfl; rw [hc] at hn; injection hn with hn; rw [hn] at hkk; cases hkk
  rw [List.getElem?_set, if_neg this]; exact hc
theorem Hp.repl (h : Hp S0 R S C A W) (j : Nat) {sz : Nat} (xs : List PV) :
  Hp S0 R (S ++ [.tip xs.length sz]) C (A.set j (.lst xs (.tip S.length), sz)) W := by
 have hn := h.addTip xs sz
 have lt : ∀ q ∈ A, tipOf q.1 ≠ some S.length := fun q hq he => by have := ((h.app q hq).1.lt he).1; omega
 refine { hn with app := fun q hq => ?_, dis := pw_opt h.dis (x := (PV.lst xs (.tip S.length), sz)) fun n hn k q _ hk => by injection hn with hn; subst hn; exact lt q (app_mem hk) }
 rcases mem_set_of hq with rfl | ⟨k, hne, hk⟩
 ·exact hn.app _ List.mem_cons_self
 ·exact hn.app q (List.mem_cons_of_mem _ (app_mem hk))
/-! Rows that may be written to -/
theorem Hp.addNoW (h : Hp S0 R S C A W) (v : PV) (o : SObj) (hv : rowAt v = none) : Hp S0 R S C A ((v, o) :: W) :=
 by
  refine { h with row := fun q hq id hid => ?_, rdis := List.pairwise_cons.2 ⟨fun _ _ => .inl hv, h.rdis⟩ }
  rcases List.mem_cons.1 hq with rfl | hq
  ·rw [hv] at hid; cases hid
  ·exact h.row q hq id hid
theorem Hp.addW (h : Hp S0 R S C A W) (n : Nat) (o : SObj) (hk : o.kind = 1) : Hp S0 R (S ++ [o]) C A ((.rsl S.length n, o) :: W) := by
 have hn := h.more o
 refine { hn with row := fun q hq id hid => ?_, rdis := List.pairwise_cons.2 ⟨fun q hq => .inr fun he => ?_, h.rdis⟩ }
 ·rcases List.mem_cons.1 hq with rfl | hq
  ·injection hid with hid; subst hid
   exact ⟨.inl h.len, by simp, hk⟩
  ·exact hn.row q hq id hid
 ·have := lt_of_get (h.row q hq S.length he.symm).2.1
  omega
theorem rows_dis (h : Hp S0 R S C A W) {j : Nat} {v : PV} {o : SObj} {id : Nat} (hj : W[j]? = some (v, o)) (hv : rowAt v = some id) : ∀ k q, k ≠ j → W[k]? = some q → rowAt q.1 ≠ some id := by
 intro k q hne hk he
 have := pw_get (P := fun p q : PV × SObj => rowAt p.1 = none ∨ rowAt q.1 = none ∨ rowAt p.1 ≠ rowAt q.1) (l := W)
  (h.rdis.imp fun {a b} hab => hab.elim .inl fun h => .inr (.inr h)) (fun a b hab => by
   rcases hab with h | h | h
   ·exact .inr (.inl h)
   ·exact .inl h
   ·exact .inr (.inr (Ne.symm h))) hk hj hne
 rcases this with h | h | h
 ·rw [h] at he; cases he
 ·simp only at h; rw [hv] at h; cases h
 ·simp only [hv] at h; exact h he
theorem Hp.setW (h : Hp S0 R S C A W) (j : Nat) {v : PV} {o : SObj} {id : Nat} (hj : W[j]? = some (v, o)) (hv : rowAt v = some id) (o' : SObj) (hk : o'.kind = 1) : Hp S0 R (S.set id o') C A (W.set j (v, o')) := by
 obtain ⟨hm, hg, hm1⟩ := h.row _ (List.mem_of_getElem? hj) id hv
 have hlt := lt_of_get hg
 have hm1 : o.kind = 1 := hm1
 have hdis := rows_dis h hj hv
 refine ⟨by simpa using h.len, fun i hi hr => ?_, fun p hp => ⟨(h.cel p hp).1, ?_, (h.cel p hp).2.2⟩, h.nod, fun q hq => ⟨(h.app q hq).1.keep fun k hk => ?_, (h.app q hq).2⟩, h.dis, fun q hq k hk2 => ?_,
  pw_opt h.rdis (x := (v, o')) fun n hn k q hne hk => by rw [hv] at hn; injection hn with hn; subst hn; exact hdis k q hne hk⟩
 ·rw [List.getElem?_set]
  split
  ·rename_i he; subst he
   rcases hm with h1 | h1
   ·omega
   ·exact absurd h1 hr
  ·exact h.old i hi hr
 ·obtain ⟨_, hc, hck⟩ := h.cel p hp
  have : id ≠ p.1 := by rintro rfl; rw [hc] at hg; injection hg with hg; rw [hg] at hck; omega
  rw [List.getElem?_set, if_neg this]; exact hc
 ·obtain ⟨_, n, hn⟩ := (h.app q hq).1.lt hk
  have : id ≠ k := by rintro rfl; rw [hn] at hg; injection hg with hg; subst hg; cases hm1
  rw [List.getElem?_set, if_neg this]
 ·rcases mem_set_of hq with rfl | ⟨i, hne, hi⟩
  ·simp only at hk2
   rw [hv] at hk2; injection hk2 with hk2; subst hk2
   exact ⟨hm, by simp [hlt], hk⟩
  ·obtain ⟨h1, h2, h3⟩ := h.row q (List.mem_of_getElem? hi) k hk2
   refine ⟨h1, ?_, h3⟩
   have : id ≠ k := by rintro rfl; exact hdis i q hne hi hk2
   rw [List.getElem?_set, if_neg this]; exact h2
theorem Hp.growW (h : Hp S0 R S C A W) (j : Nat) {v : PV} {o : SObj} {id : Nat} (hj : W[j]? = some (v, o)) (hv : rowAt v = some id) (n : Nat) (o' : SObj) (hk : o'.kind = 1) : Hp S0 R (S.set id .dead ++ [o']) C A (W.set j (.rsl S.length n, o')) := by
 obtain ⟨hm, hg, hm1⟩ := h.row _ (List.mem_of_getElem? hj) id hv
 have hlt := lt_of_get hg
 have hm1 : o.kind = 1 := hm1
 have hdis := rows_dis h hj hv
 have hlen := h.len
 have old : ∀ k, k < S.length → k ≠ id → (S.set id .dead ++ [o'])[k]? = S[k]? := fun k hk hne => by
  rw [List.getElem?_append_left (by simpa using hk), List.getElem?_set, if_neg (Ne.symm hne)]
 refine ⟨by simp; omega, fun i hi hr => ?_, fun p hp => ⟨(h.cel p hp).1, ?_, (h.cel p hp).2.2⟩, h.nod, fun q hq => ⟨(h.app q hq).1.keep fun k hk => ?_, (h.app q hq).2⟩, h.dis, fun q hq k hk2 => ?_,
  pw_opt h.rdis (x := (PV.rsl S.length n, o')) fun n hn k q hne hk he => by injection hn with hn; subst hn; have := lt_of_get (h.row q (List.mem_of_getElem? hk) _ he).2.1; omega⟩
 ·have hne : i ≠ id := by
   rintro rfl
   rcases hm with h1 | h1
   ·omega
   ·exact hr h1
  rw [old i (by omega) hne]
  exact h.old i hi hr
 ·obtain ⟨_, hc, hck⟩ := h.cel p hp
  rw [old _ (lt_of_get hc) (by rintro rfl; rw [hc] at hg; injection hg with hg; rw [hg] at hck; omega)]; exact hc
 ·obtain ⟨hl, n, hn⟩ := (h.app q hq).1.lt hk
  rw [old _ hl (by rintro rfl; rw [hn] at hg; injection hg with hg; subst hg; cases hm1)]
 ·rcases mem_set_of hq with rfl | ⟨i, hne, hi⟩
  ·injection hk2 with hk2; subst hk2
   exact ⟨.inl hlen, by rw [List.getElem?_append_right (by simp)]; simp, hk⟩
  ·obtain ⟨h1, h2, h3⟩ := h.row q (List.mem_of_getElem? hi) k hk2
   refine ⟨h1, ?_, h3⟩
   rw [old _ (lt_of_get h2) (by rintro rfl; exact hdis i q hne hi hk2)]; exact h2
def growPV (ei : TyI) (v : PV) (ys : List PV) (S : List SObj) : Option (PV × List SObj) := match v with
 | .nils => if ys.length * ei.bytes ≤ 2 ^ 47 then some (.lst ys (.tip S.length), S ++ [.tip ys.length ei.size]) else none
 | .lst xs .full => if (xs.length + ys.length) * ei.bytes ≤ 2 ^ 47 ∧ sizedAll ei.size xs then some (.lst (xs ++ ys) (.tip S.length), S ++ [.tip (xs.length + ys.length) ei.size]) else none
 | .rsl id len =>
  match S[id]? with
  | some (.row xs sz false) => if len = xs.length ∧ sz = ei.size ∧ (xs.length + ys.length) * ei.bytes ≤ 2 ^ 47 then some (.rsl S.length (xs.length + ys.length), S.set id .dead ++ [.row (xs ++ ys) sz false]) else none
  | _ => none
 | .lst xs (.tip id) =>
  match S[id]? with
  | some (.tip hw sz) => if hw = xs.length ∧ sz = ei.size ∧ (xs.length + ys.length) * ei.bytes ≤ 2 ^ 47 then some (.lst (xs ++ ys) (.tip id), S.set id (.tip (xs.length + ys.length) sz)) else none
  | _ => none
 | _ => none
theorem stp_app {α : Type} {f : α → PV} {x y z : Sl α} {v w : PV} {a b : Operand} {t u e : TypeId} {ei : TyI} (H : Hp S0 R S C A W) (j : Nat) (hj : A[j]? = some (v, ei.size))
  (ho : opd σ a = v) (hx : IsSl f x v) (hb : opd σ b = w) (hw : IsSl f y w)
  (ht : (env.ctx.ty t).map (·.und) = some (.slice e)) (hu : (env.ctx.ty u).map (·.und) = some (.slice e)) (he : env.ctx.ty e = some ei)
  (hok : (decide (ei.size ≠ 0) && decide (ei.bytes ≠ 0) && ei.zero.storable && decide (ei.zero.cells.length = ei.size)) = true)
  (hc : ∀ a, (f a).cells.length = ei.size) (hz : Sl.app? ei.bytes x y.l = some z) :
  ∃ v' S', stp env fr σ S (.call ⟨.builtin .append, #[a, b], #[t, u]⟩) = some (v', S', false) ∧ IsSl f z v' ∧ Hp S0 R S' C (A.set j (v', ei.size)) W := by
 simp only [Bool.and_eq_true, decide_eq_true_eq] at hok
 obtain ⟨⟨⟨k1, k2⟩, k3⟩, k4⟩ := hok
 cases hti : env.ctx.ty t with
 | none => rw [hti] at ht; cases ht
 | some ti =>
 rw [hti] at ht
 have ht' : ti.und = .slice e := by simpa using ht
 cases hui : env.ctx.ty u with
 | none => rw [hui] at hu; cases hu
 | some ui =>
 rw [hui] at hu
 have hu' : ui.und = .slice e := by simpa using hu
 unfold Sl.app? at hz
 split at hz
 case isFalse => cases hz
 rename_i hfit
 injection hz with hz
 have hlist : listOf w = some (y.l.map f) := by
  cases y with
  | none => cases hw; rfl
  | some l => obtain ⟨tag, rfl⟩ := hw; rfl
 have happ := (H.app _ (app_mem hj)).1
 cases hemp : y.l.isEmpty with
 | true =>
  rw [hemp] at hz
  simp only [if_true] at hz
  subst hz
  have hnil : y.l = [] := by simpa using hemp
  have hsl : isSlice v = true := by cases happ <;> rfl
  refine ⟨v, S, ?_, hx, ?_⟩
  ·simp only [stp, evStep, callPV, List.map_cons, List.map_nil, ho, hb, appendPV, hlist]
   simp [hti, hui, ht', hu', he, hnil, hsl]
  ·have : A.set j (v, ei.size) = A := by
    apply List.ext_getElem?
    intro i
    rw [List.getElem?_set]
    split
    ·rename_i hi; subst hi; rw [hj]; split
     ·rfl
     ·have := (List.getElem?_eq_some_iff.1 hj).1; omega
    ·rfl
   rw [this]; exact H
 | false =>
  rw [hemp] at hz
  simp only [Bool.false_eq_true, if_false] at hz
  subst hz
  have hne : (y.l.map f).isEmpty = false := by simpa using hemp
  have hsz := sized_map hc y.l
  have cond : ¬ (sizedAll ei.size (y.l.map f) = false ∨ ei.size = 0 ∨ ei.bytes = 0 ∨ ei.zero.storable = false ∨ ei.zero.cells.length ≠ ei.size) := by
   rw [hsz]; simp [k1, k2, k3, k4]
  have red : stp env fr σ S (.call ⟨.builtin .append, #[a, b], #[t, u]⟩) = (growPV ei v (y.l.map f) S).map fun (v, S') => (v, S', false) := by
   simp only [stp, evStep, callPV, List.map_cons, List.map_nil, ho, hb, appendPV]
   simp only [List.getElem?_toArray, List.getElem?_cons_zero, List.getElem?_cons_succ, hti, hui, hlist, ht', hu', he, hne, Bool.false_eq_true, if_false]
   rw [if_neg cond]
   rfl
  rw [red]
  cases x with
  | none =>
   cases hx
   refine ⟨.lst (y.l.map f) (.tip S.length), S ++ [.tip (y.l.map f).length ei.size], ?_, ⟨.tip S.length, by simp [Sl.l]⟩, ?_⟩
   ·have hfit : y.l.length * ei.bytes ≤ 2 ^ 47 := by have h := hfit; rw [show (Sl.l (none : Sl α)).length = 0 from rfl, Nat.zero_add] at h; exact h
    unfold growPV
    simp only
    rw [if_pos (by simpa using hfit)]
    rfl
   ·exact H.repl j _
  | some l =>
   obtain ⟨tag, rfl⟩ := hx
   have hfit : (l.length + y.l.length) * ei.bytes ≤ 2 ^ 47 := hfit
   cases tag with
   | none => cases happ
   | full =>
    cases happ with
    | full _ hs =>
    refine ⟨.lst (l.map f ++ y.l.map f) (.tip S.length), S ++ [.tip ((l.map f).length + (y.l.map f).length) ei.size], ?_, ⟨.tip S.length, by simp [Sl.l]⟩, ?_⟩
    ·unfold growPV
     simp only [hs]
     rw [if_pos ⟨by simpa using hfit, trivial⟩]
     rfl
    ·have := H.repl j (sz := ei.size) (l.map f ++ y.l.map f)
     simpa using this
   | tip id =>
    cases happ with
    | tip _ _ hs =>
    refine ⟨.lst (l.map f ++ y.l.map f) (.tip id), S.set id (.tip ((l.map f).length + (y.l.map f).length) ei.size), ?_, ⟨.tip id, by simp [Sl.l]⟩, ?_⟩
    ·unfold growPV
     simp only [hs]
     rw [if_pos ⟨trivial, trivial, by simpa using hfit⟩]
     rfl
    ·exact H.grow j hj _
end Go.Pam
namespace Go.Pam
theorem iteT {α : Type} {c : Bool} {a b : Option α} {r : α} (h : (if c = true then a else b) = some r) (hc : c = true) : a = some r := by subst hc; exact h
theorem iteF {α : Type} {c : Bool} {a b : Option α} {r : α} (h : (if c = true then a else b) = some r) (hc : c = false) : b = some r := by subst hc; exact h
end Go.Pam
namespace Go.Pam
variable {env : Env} {fr : Fr} {σ : Nat → PV} {S : List SObj} {S0 : List SObj} {R : List Nat} {C : List (Nat × SObj)} {A : List (PV × Nat)} {W : List (PV × SObj)}
theorem stp_load {t : TypeId} {a : Operand} {id off : Nat} {cs : List PV} {v : PV} (ho : opd σ a = .ptr id off) (hg : S[id]? = some (.cells cs)) (hp : partOf env.ctx t cs off = some v) :
  stp env fr σ S (.load t a) = some (v, S, false) := by
 simp only [stp, evStep, ho, loadPV, hg, hp, Option.map_some]
theorem stp_store {t : TypeId} {a x : Operand} {id off sz : Nat} {cs cs' xc : List PV} {v : PV} {e : Bool} (ho : opd σ a = .ptr id off) (hx : opd σ x = v) (hg : S[id]? = some (.cells cs)) (ht : (env.ctx.ty t).map (·.size) = some sz)
  (hs : v.storable = true) (hv : v.cells = xc) (hl : xc.length = sz) (hb : off + sz ≤ cs.length) (hc : cs.take off ++ xc ++ cs.drop (off + sz) = cs') (he : (decide (id < fr.base) && !v.clean) = e) :
  stp env fr σ S (.store t a x) = some (.tup [], S.set id (.cells cs'), e) := by
 cases hti : env.ctx.ty t with
 | none => rw [hti] at ht; cases ht
 | some ti =>
  rw [hti] at ht
  have hz : ti.size = sz := by simpa using ht
  subst hc hz hv
  have hn : ¬ (v.storable = false ∨ v.cells.length ≠ ti.size ∨ off + ti.size > cs.length) := by
   rintro (h | h | h)
   ·rw [hs] at h; cases h
   ·exact h hl
   ·omega
  simp only [stp, evStep, ho, hx, storePV, hg, hti, if_neg hn, he, Option.map_some]
theorem stp_box {t : TypeId} {x : Operand} {v : PV} {cs : List PV} (hx : opd σ x = v) (hs : v.storable = true) (hv : v.cells = cs) :
  stp env fr σ S (.box t x) = some (.ptr S.length 0, S ++ [.cells cs], false) := by
 subst hv
 simp only [stp, evStep, hx, hs, if_true]
theorem stp_alloc {t : TypeId} {ti : TyI} {cs : List PV} (ht : env.ctx.ty t = some ti) (hs : ti.zero.storable = true) (hv : ti.zero.cells = cs) :
  stp env fr σ S (.alloc t) = some (.ptr S.length 0, S ++ [.cells cs], false) := by
 subst hv
 simp only [stp, evStep, ht, hs, if_true]
theorem fill_cons {place : Nat → Option (Nat × Nat)} {cells cells' xc : List PV} {i off size : Nat} {v : PV} {rest : List (Nat × PV)} {r : List PV} (hp : place i = some (off, size)) (hs : v.storable = true) (hv : v.cells = xc) (hl : xc.length = size)
  (hb : off + size ≤ cells.length) (hc : cells.take off ++ xc ++ cells.drop (off + size) = cells') (h : fillPV place cells' rest = some r) : fillPV place cells ((i, v) :: rest) = some r := by
 subst hv hc
 unfold fillPV
 simp only [hp]
 rw [if_neg]
 ·exact h
 ·rintro (h | h | h)
  ·rw [hs] at h; cases h
  ·exact h hl
  ·omega
theorem stp_build {t : TypeId} {ps : Array (Nat × Operand)} {ti : TyI} {fs : Array Field} {pl : List (Nat × Nat)} {parts : List (Nat × PV)} {cs : List PV} (ht : env.ctx.ty t = some ti) (hu : ti.und = .struct fs) (hz : ti.zero.storable = true)
  (hpl : placesOf env.ctx fs.toList = some pl) (hps : (ps.toList.map fun p => (p.1, opd σ p.2)) = parts) (hf : fillPV (fun i => pl[i]?) ti.zero.cells parts = some cs) :
  stp env fr σ S (.build t ps) = some (.agg cs, S, false) := by
 have hz' : ¬ ti.zero.storable = false := by rw [hz]; simp
 simp only [stp, evStep, hps, buildPV, ht, hu, if_neg hz', hpl, hf, Option.map_some]
theorem setParts_go {sz : Nat} : ∀ (parts : List (Nat × PV)) (ys : List PV) (done z : List PV), parts.map (·.1) = (List.range' done.length ys.length) → parts.map (·.2.strip) = ys →
  (∀ p ∈ parts, p.2.storable = true ∧ p.2.cells.length = sz) → z.length = ys.length → setParts sz (done ++ z) parts = some (done ++ ys)
 | [], ys, done, z, h1, h2, h3, h4 => by
  simp only [List.map_nil] at h2; subst h2
  have : z = [] := by simpa using h4
  subst this; rfl
 | (i, v) :: parts, ys, done, z, h1, h2, h3, h4 => by
  cases ys with
  | nil => simp at h2
  | cons y ys =>
   cases z with
   | nil => simp at h4
   | cons z0 z =>
    simp only [List.length_cons, List.range'_succ, List.map_cons, List.cons.injEq] at h1 h2
    obtain ⟨rfl, h1⟩ := h1
    obtain ⟨rfl, h2⟩ := h2
    have hv := h3 _ List.mem_cons_self
    unfold setParts
    rw [if_pos ⟨hv.1, hv.2, by simp⟩]
    have : (done ++ z0 :: z).set done.length v.strip = (done ++ [v.strip]) ++ z := by simp
    rw [this]
    have := setParts_go parts ys (done ++ [v.strip]) z (by simpa using h1) h2 (fun p hp => h3 p (List.mem_cons_of_mem _ hp)) (by simpa using h4)
    rw [this]; simp
theorem stp_buildSlice {α : Type} {f : α → PV} {t e : TypeId} {n : Nat} {ps : Array (Nat × Operand)} {ei : TyI} {ys : List α} {parts : List (Nat × PV)} (ht : (env.ctx.ty t).map (·.und) = some (.slice e)) (he : env.ctx.ty e = some ei)
  (hok : (decide (n * ei.size ≤ 2 ^ 24) && decide (ei.size ≠ 0) && decide (ei.zero.cells.length = ei.size) && ei.zero.storable) = true)
  (hps : (ps.toList.map fun p => (p.1, opd σ p.2)) = parts) (h1 : parts.map (·.1) = List.range' 0 n) (h2 : parts.map (·.2.strip) = ys.map f) (h3 : ∀ p ∈ parts, p.2.storable = true ∧ p.2.cells.length = ei.size) (hn : ys.length = n) :
  stp env fr σ S (.buildSlice t n ps) = some (.lst (ys.map f) .full, S, false) := by
 simp only [Bool.and_eq_true, decide_eq_true_eq] at hok
 obtain ⟨⟨⟨k1, k2⟩, k3⟩, k4⟩ := hok
 cases hti : env.ctx.ty t with
 | none => rw [hti] at ht; cases ht
 | some ti =>
  rw [hti] at ht
  have hu : ti.und = .slice e := by simpa using ht
  have := setParts_go (sz := ei.size) parts (ys.map f) [] (List.replicate n ei.zero) (by simpa [hn] using h1) h2 h3 (by simp [hn])
  simp only [List.nil_append] at this
  simp only [stp, evStep, hps, buildSlicePV, hti, hu, he]
  rw [if_pos ⟨k1, k2, k3, k4⟩, this]
  rfl
theorem stp_bytes {s : Str} {a : Operand} {st dt e : TypeId} (ho : opd σ a = .str s) (hs : (env.ctx.ty st).map (·.und) = some .string) (hd : (env.ctx.ty dt).map (·.und) = some (.slice e)) (he : (env.ctx.ty e).map (·.und) = some (.int .u8)) (H : Hp S0 R S C A W) :
  ∃ v' S', stp env fr σ S (.convert st dt a) = some (v', S', false) ∧ IsSl (eI .u8) (Str.bytes s) v' ∧ Hp S0 R S' C ((v', 1) :: A) W := by
 cases h1 : env.ctx.ty st with
 | none => rw [h1] at hs; cases hs
 | some si =>
 rw [h1] at hs
 have hs' : si.und = .string := by simpa using hs
 cases h2 : env.ctx.ty dt with
 | none => rw [h2] at hd; cases hd
 | some di =>
 rw [h2] at hd
 have hd' : di.und = .slice e := by simpa using hd
 cases h3 : env.ctx.ty e with
 | none => rw [h3] at he; cases he
 | some ei =>
 rw [h3] at he
 have he' : ei.und = .int .u8 := by simpa using he
 have := H.addTip (s.map fun b => PV.int .u8 b.toNat) 1
 refine ⟨.lst (s.map fun b => .int .u8 b.toNat) (.tip S.length), S ++ [.tip s.length 1], ?_, ⟨.tip S.length, ?_⟩, by simpa using this⟩
 ·simp only [stp, evStep, ho, convPV, h1, h2, hs', hd', h3, he', Option.map_some]
 ·simp [Function.comp_def]
theorem bytesOf_map : ∀ (l : List Int), convPV.bytesOfPV (l.map (eI .u8)) = some (l.map fun n => UInt8.ofNat n.toNat)
 | [] => rfl
 | n :: l => by simp [convPV.bytesOfPV, bytesOf_map l]
theorem stp_text {x : Sl Int} {v : PV} {a : Operand} {st dt e : TypeId} (ho : opd σ a = v) (hx : IsSl (eI .u8) x v) (hs : (env.ctx.ty st).map (·.und) = some (.slice e)) (hd : (env.ctx.ty dt).map (·.und) = some .string) (he : (env.ctx.ty e).map (·.und) = some (.int .u8)) :
  stp env fr σ S (.convert st dt a) = some (.str (Str.of x), S, false) := by
 cases h1 : env.ctx.ty st with
 | none => rw [h1] at hs; cases hs
 | some si =>
 rw [h1] at hs
 have hs' : si.und = .slice e := by simpa using hs
 cases h2 : env.ctx.ty dt with
 | none => rw [h2] at hd; cases hd
 | some di =>
 rw [h2] at hd
 have hd' : di.und = .string := by simpa using hd
 cases h3 : env.ctx.ty e with
 | none => rw [h3] at he; cases he
 | some ei =>
 rw [h3] at he
 have he' : ei.und = .int .u8 := by simpa using he
 cases x with
 | none => cases hx; simp only [stp, evStep, ho, convPV, h1, h2, hs', hd', h3, he', Option.map_some]; rfl
 | some l => obtain ⟨tag, rfl⟩ := hx; simp only [stp, evStep, ho, convPV, h1, h2, hs', hd', h3, he', Option.map_some, bytesOf_map]; rfl
def plain : PV → PV → Bool
 | .int _ _, .int _ _ => false
 | .str _, .str _ => false
 | _, _ => true
theorem binPV_eql (ctx : Ctx) (t : TypeId) (a b : Operand) (x y : PV) (h : plain x y = true) : binPV ctx .eql t a b x y = if eqGuardOk a b x y then (eqIn ctx 40 t x y).map .bool else none := by
 unfold binPV
 split <;> first | rfl | simp_all [plain]
theorem stp_eq {t u : TypeId} {a b : Operand} {x y : PV} {r : Bool} (ha : opd σ a = x) (hb : opd σ b = y) (hr : eqB env.ctx 40 t x y = some r) (hg : eqGuardOk a b x y = true) (hk : plain x y = true) :
  stp env fr σ S (.binOp .eql t a b u) = some (.bool r, S, false) := by
 have h := eqB_ok env.ctx 40 t x y r hr
 simp only [stp, evStep, ha, hb, binPV_eql _ _ _ _ _ _ hk, hg, if_true, h, Option.map_some]
theorem stp_strApp {x y z : Str} {t u : TypeId} {a b : Operand} (ha : opd σ a = .str x) (hb : opd σ b = .str y) (hz : Str.app? x y = some z) : stp env fr σ S (.binOp .add t a b u) = some (.str z, S, false) := by
 unfold Str.app? at hz
 simp only [stp, evStep, ha, hb, binPV, strOp]
 split at hz
 ·cases hz
 ·rename_i h; injection hz with hz; subst hz; simp only [h, if_false, Option.map_some]
theorem stp_shl {t u : TypeId} {k k' : IntKind} {a b : Operand} {x y z : Int} (ha : opd σ a = .int k x) (hb : opd σ b = .int k' y) (hz : shl? k x y = some z) : stp env fr σ S (.binOp .shl t a b u) = some (.int k z, S, false) := by
 unfold shl? at hz
 simp only [stp, evStep, ha, hb, binPV, shiftOp]
 split at hz
 ·cases hz
 ·rename_i h; injection hz with hz; subst hz; simp [h]
theorem stp_shr {t u : TypeId} {k k' : IntKind} {a b : Operand} {x y z : Int} (ha : opd σ a = .int k x) (hb : opd σ b = .int k' y) (hz : shr? k x y = some z) : stp env fr σ S (.binOp .shr t a b u) = some (.int k z, S, false) := by
 unfold shr? at hz
 simp only [stp, evStep, ha, hb, binPV, shiftOp]
 split at hz
 ·cases hz
 ·rename_i h; injection hz with hz; subst hz; simp [h]
theorem stp_call {f : FuncId} {op : Operand} {args : Array Operand} {ts : Array TypeId} {cap vs : List PV} {v : PV} {S' : List SObj} {e : Bool} (hf : opd σ op = .fn (.func f) [] cap) (ha : args.toList.map (opd σ) ++ cap = vs) (h : evw env f vs S = some (v, S', e)) :
  stp env fr σ S (.call ⟨.value op, args, ts⟩) = some (v, S', e) := by
 subst ha
 simp only [stp, evStep, callPV, hf, h]
end Go.Pam
namespace Go.Pam
variable {env : Env} {fr : Fr} {σ : Nat → PV} {S : List SObj} {S0 : List SObj} {R : List Nat} {C : List (Nat × SObj)} {A : List (PV × Nat)} {W : List (PV × SObj)}
theorem WO.go0 {op : Op} {d : Option Nat} {t : Nat} {want b : Bool} {wr : Bool} {rest : List POp} {e : Bool} {K : KS} (hb : σ t = .bool b) (hw : (b == want) = true)
  (h : WO env fr (⟨d, op, none, wr⟩ :: rest) σ S e K) : WO env fr (⟨d, op, some (t, want), wr⟩ :: rest) σ S e K := by
 obtain ⟨σ1, S1, e1, h1, h2⟩ := h
 refine ⟨σ1, S1, e1, ?_, h2⟩
 unfold evOps at h1 ⊢
 simp only [wantedPV, hb, hw] at h1 ⊢
 exact h1
theorem WH.go0 {op : Op} {d : Option Nat} {t : Nat} {want b : Bool} {wr : Bool} {rest : List POp} {K : (Nat → PV) → Prop} (hb : σ t = .bool b) (hw : (b == want) = true)
  (h : WH env fr (⟨d, op, none, wr⟩ :: rest) σ S K) : WH env fr (⟨d, op, some (t, want), wr⟩ :: rest) σ S K := by
 obtain ⟨σ1, h1, h2⟩ := h
 refine ⟨σ1, ?_, h2⟩
 unfold evHead at h1 ⊢
 simp only [wantedPV, hb, hw] at h1 ⊢
 exact h1
theorem WO.box {t : TypeId} {x : Operand} {d : Option Nat} {rest : List POp} {e : Bool} {K : KS} {v : PV} {cs : List PV} (hd : dstOk fr.ntmps d = true) (hz : frzT (frzArgs env.ctx σ (.box t x)) σ S = (σ, S)) (hx : opd σ x = v) (hs : v.storable = true) (hv : v.cells = cs) (H : Hp S0 R S C A W)
  (h : ∀ i S', Hp S0 R S' ((i, .cells cs) :: C) A W → WO env fr rest (upd σ d (.ptr i 0)) S' (e || false) K) : WO env fr (⟨d, .box t x, none, false⟩ :: rest) σ S e K :=
 WO.step hd (nz hz (stp_box hx hs hv)) (h _ _ (H.push cs))
theorem WO.alloc {t : TypeId} {ti : TyI} {d : Option Nat} {rest : List POp} {e : Bool} {K : KS} {cs : List PV} (hd : dstOk fr.ntmps d = true) (ht : env.ctx.ty t = some ti) (hs : ti.zero.storable = true) (hv : ti.zero.cells = cs) (H : Hp S0 R S C A W)
  (h : ∀ i S', Hp S0 R S' ((i, .cells cs) :: C) A W → WO env fr rest (upd σ d (.ptr i 0)) S' (e || false) K) : WO env fr (⟨d, .alloc t, none, false⟩ :: rest) σ S e K :=
 WO.step hd (nz rfl (stp_alloc ht hs hv)) (h _ _ (H.push cs))
theorem WO.store (j : Nat) {t : TypeId} {a x : Operand} {d : Option Nat} {rest : List POp} {id off sz : Nat} {cs cs' xc : List PV} {v : PV} {e e' : Bool} {K : KS} (hd : dstOk fr.ntmps d = true) (hz : frzT (frzArgs env.ctx σ (.store t a x)) σ S = (σ, S)) (H : Hp S0 R S C A W) (hj : C[j]? = some (id, .cells cs))
  (ho : opd σ a = .ptr id off) (hx : opd σ x = v) (ht : (env.ctx.ty t).map (·.size) = some sz)
  (hs : v.storable = true) (hv : v.cells = xc) (hl : xc.length = sz) (hb : off + sz ≤ cs.length) (hc : cs.take off ++ xc ++ cs.drop (off + sz) = cs') (he : (decide (id < fr.base) && !v.clean) = e')
  (h : ∀ S', Hp S0 R S' (C.set j (id, .cells cs')) A W → WO env fr rest (upd σ d (.tup [])) S' (e || e') K) : WO env fr (⟨d, .store t a x, none, false⟩ :: rest) σ S e K :=
 WO.step hd (nz hz (stp_store ho hx (H.get j hj) ht hs hv hl hb hc he)) (h _ (H.set j hj cs'))
theorem own_e {id : Nat} {v : PV} (h : fr.base ≤ id) : (decide (id < fr.base) && !v.clean) = false := by
 have : ¬ id < fr.base := by omega
 simp [this]
theorem clean_e {id : Nat} {v : PV} (h : v.clean = true) : (decide (id < fr.base) && !v.clean) = false := by simp [h]
theorem nzx {op : Op} {d : Option Nat} {g : Option (Nat × Bool)} {P : PV → List SObj → Prop} (hz : frzT (frzArgs env.ctx σ op) σ S = (σ, S)) (hs : ∃ v' S', stp env fr σ S op = some (v', S', false) ∧ P v' S') :
  ∃ v' S', stF env fr σ S ⟨d, op, g, false⟩ = some (v', S', false) ∧ P v' S' := by
 obtain ⟨v', S', h1, h2⟩ := hs
 exact ⟨v', S', nz hz h1, h2⟩
theorem WO.ex {rest : List POp} {op : Op} {d : Option Nat} {wr : Bool} {e : Bool} {K : KS} {P : PV → List SObj → Prop} (hd : dstOk fr.ntmps d = true) (hs : ∃ v' S', stF env fr σ S ⟨d, op, none, wr⟩ = some (v', S', false) ∧ P v' S')
  (h : ∀ v' S', P v' S' → WO env fr rest (upd σ d v') S' (e || false) K) : WO env fr (⟨d, op, none, wr⟩ :: rest) σ S e K := by
 obtain ⟨v', S', h1, h2⟩ := hs
 exact WO.step hd h1 (h _ _ h2)
/-! Leaves -/
theorem KX.seq_n {K : KX} {P : KS} {e : Bool} (h : P σ S e) : K.seq P .normal σ S e := h
theorem KX.seq_x {K : KX} {P : KS} {e : Bool} {i : Nat} (h : K (.exit i) σ S e) : K.seq P (.exit i) σ S e := h
theorem KX.seq_r {K : KX} {P : KS} {e : Bool} (h : K .ret σ S e) : K.seq P .ret σ S e := h
theorem KX.block_n {K : KX} {e : Bool} {id : Nat} (h : K .normal σ S e) : K.block id .normal σ S e := h
theorem KX.block_x {K : KX} {e : Bool} {id : Nat} (h : K .normal σ S e) : K.block id (.exit id) σ S e := by simp only [KX.block, if_true]; exact h
theorem KX.block_y {K : KX} {e : Bool} {i id : Nat} (hi : (i == id) = false) (h : K (.exit i) σ S e) : K.block id (.exit i) σ S e := by
 have : ¬ i = id := by simpa using hi
 simp only [KX.block, if_neg this]; exact h
theorem KX.block_r {K : KX} {e : Bool} {id : Nat} (h : K .ret σ S e) : K.block id .ret σ S e := h
def KB (env : Env) (pf : PFn) (K : KV) : KX := fun x σ S' e => match x with
 | .normal => ∃ vs, resultsOf env.ctx S' σ pf.results = some vs ∧ if pf.raw then K (tupled vs) S' e else K (tupled (frzL vs S').1) (frzL vs S').2 e
 | .exit _ => False
 | .ret => ∃ vs, resultsOf env.ctx S' σ pf.results = some vs ∧ if pf.raw then K (tupled vs) S' e else K (tupled (frzL vs S').1) (frzL vs S').2 e
theorem WB.of {pf : PFn} {args : List PV} {K : KV} {c : PC} {rs : List ResultVar} {n : Nat} {rw : Bool} (hpf : pf = ⟨n, rs, c, rw⟩) (h : WC env ⟨n, S.length⟩ c (fun i => args.getD i (.tup [])) S false (KB env ⟨n, rs, c, rw⟩ K)) : WB env pf args S K := by
 subst hpf; exact h
theorem KB.ret {n : Nat} {rs : List ResultVar} {c : PC} {K : KV} {e : Bool} {vs : List PV} (hr : resultsOf env.ctx S σ rs = some vs) (hz : frzL vs S = (vs, S)) (h : K (tupled vs) S e) : KB env ⟨n, rs, c, false⟩ K .ret σ S e :=
 ⟨vs, hr, by simp only [Bool.false_eq_true, if_false, hz]; exact h⟩
theorem KB.normal {n : Nat} {rs : List ResultVar} {c : PC} {K : KV} {e : Bool} {vs : List PV} (hr : resultsOf env.ctx S σ rs = some vs) (hz : frzL vs S = (vs, S)) (h : K (tupled vs) S e) : KB env ⟨n, rs, c, false⟩ K .normal σ S e :=
 ⟨vs, hr, by simp only [Bool.false_eq_true, if_false, hz]; exact h⟩
theorem KB.retZ {n : Nat} {rs : List ResultVar} {c : PC} {K : KV} {e : Bool} {vs vs' : List PV} {S' : List SObj} (hr : resultsOf env.ctx S σ rs = some vs) (hz : frzL vs S = (vs', S')) (h : K (tupled vs') S' e) : KB env ⟨n, rs, c, false⟩ K .ret σ S e :=
 ⟨vs, hr, by simp only [Bool.false_eq_true, if_false, hz]; exact h⟩
theorem KB.retR {n : Nat} {rs : List ResultVar} {c : PC} {K : KV} {e : Bool} {vs : List PV} (hr : resultsOf env.ctx S σ rs = some vs) (h : K (tupled vs) S e) : KB env ⟨n, rs, c, true⟩ K .ret σ S e := ⟨vs, hr, by simpa using h⟩
theorem res_nil {ctx : Ctx} : resultsOf ctx S σ [] = some [] := rfl
theorem res_tmp {ctx : Ctx} {t : Nat} {v : PV} {rs : List ResultVar} {vs : List PV} (h : σ t = v) (hr : resultsOf ctx S σ rs = some vs) : resultsOf ctx S σ (.tmp t :: rs) = some (v :: vs) := by
 simp only [resultsOf, resultOf, h, hr]
theorem res_cell {ctx : Ctx} {a : Nat} {t : TypeId} {id off : Nat} {cs : List PV} {v : PV} {rs : List ResultVar} {vs : List PV} (h : σ a = .ptr id off) (hg : S[id]? = some (.cells cs)) (hp : partOf ctx t cs off = some v) (hr : resultsOf ctx S σ rs = some vs) :
  resultsOf ctx S σ (.cell a t :: rs) = some (v :: vs) := by
 simp only [resultsOf, resultOf, loadPV, h, hg, hp, hr]
theorem WC.of_known {l : List (Nat × PV)} {c : PC} {e : Bool} {K : KX} (hk : Known l σ) (h : WC env fr c (put l σ) S e K) : WC env fr c σ S e K := by
 rwa [put_known hk] at h
theorem WO.of_known {l : List (Nat × PV)} {c : List POp} {e : Bool} {K : KS} (hk : Known l σ) (h : WO env fr c (put l σ) S e K) : WO env fr c σ S e K := by
 rwa [put_known hk] at h
theorem WH.of_known {l : List (Nat × PV)} {c : List POp} {K : (Nat → PV) → Prop} (hk : Known l σ) (h : WH env fr c (put l σ) S K) : WH env fr c σ S K := by
 rwa [put_known hk] at h
theorem KX.of_known {l : List (Nat × PV)} {x : Ex} {e : Bool} {K : KX} (hk : Known l σ) (h : K x (put l σ) S e) : K x σ S e := by
 rwa [put_known hk] at h
end Go.Pam
namespace Go.Pam
variable {env : Env} {fr : Fr} {σ : Nat → PV} {S : List SObj} {S0 : List SObj} {R : List Nat} {C : List (Nat × SObj)} {A : List (PV × Nat)} {W : List (PV × SObj)}
theorem WC.join {c : PC} {e : Bool} {K : KX} (P : KS) (h : WC env fr c σ S e (K.seq P)) (h2 : ∀ σ' S' e', P σ' S' e' → K .normal σ' S' e') : WC env fr c σ S e K := by
 obtain ⟨x, σ1, S1, e1, h1, hp⟩ := h
 cases x with
 | normal => exact ⟨_, _, _, _, h1, h2 _ _ _ hp⟩
 | exit i => exact ⟨_, _, _, _, h1, hp⟩
 | ret => exact ⟨_, _, _, _, h1, hp⟩
theorem WO.box' {t : TypeId} {x : Operand} {d : Option Nat} {rest : List POp} {e : Bool} {K : KS} {v : PV} {cs : List PV} (hd : dstOk fr.ntmps d = true) (hz : frzT (frzArgs env.ctx σ (.box t x)) σ S = (σ, S)) (hx : opd σ x = v) (hs : v.storable = true) (hv : v.cells = cs) (H : Hp S0 R S C A W)
  (h : ∀ i S', S0.length ≤ i → Hp S0 R S' ((i, .cells cs) :: C) A W → WO env fr rest (upd σ d (.ptr i 0)) S' (e || false) K) : WO env fr (⟨d, .box t x, none, false⟩ :: rest) σ S e K :=
 WO.step hd (nz hz (stp_box hx hs hv)) (h _ _ H.len (H.push cs))
theorem WO.alloc' {t : TypeId} {ti : TyI} {d : Option Nat} {rest : List POp} {e : Bool} {K : KS} {cs : List PV} (hd : dstOk fr.ntmps d = true) (ht : env.ctx.ty t = some ti) (hs : ti.zero.storable = true) (hv : ti.zero.cells = cs) (H : Hp S0 R S C A W)
  (h : ∀ i S', S0.length ≤ i → Hp S0 R S' ((i, .cells cs) :: C) A W → WO env fr rest (upd σ d (.ptr i 0)) S' (e || false) K) : WO env fr (⟨d, .alloc t, none, false⟩ :: rest) σ S e K :=
 WO.step hd (nz rfl (stp_alloc ht hs hv)) (h _ _ H.len (H.push cs))
theorem leave_hp {S' : List SObj} {id : Nat} {cs : List PV} {v v' : PV} {c0 : List PV} (h0 : S0[id]? = some (.cells c0)) (H : Hp S0 [id] S' C A W) (j : Nat) (hj : C[j]? = some (id, .cells cs)) (hv : v.strip = v') (hc : v'.clean = true) :
  leave S0.length v S' false = (v', S0.set id (.cells cs), false) := by
 have hid := (List.getElem?_eq_some_iff.1 h0).1
 refine leave_of rfl hv hc (by simp) H.len fun i hi => ?_
 rw [List.getElem?_set]
 split
 ·rename_i he; subst he; exact H.get j hj
 ·rename_i he; exact H.old i hi (by simpa using fun h => he h.symm)
theorem evw_recvW {f : FuncId} {pf : PFn} (hi : env.intr f = none) (hf : env.fn f = some pf) {args : List PV} {S : List SObj} {r : PV × List SObj × Bool}
  (hl : args.length ≤ pf.ntmps) (hc : cleanL (args.map PV.strip) = false)
  (h : WB env pf args S fun v S' e => leave S.length v S' e = r) : evw env f args S = some r := by
 obtain ⟨q, h1, h2⟩ := evw_storeW (K := fun q => q = r) hi hf hl hc h
 rw [h1, h2]
end Go.Pam
namespace Go.Pam
variable {env : Env} {fr : Fr} {σ : Nat → PV} {S : List SObj} {S0 : List SObj} {R : List Nat} {C : List (Nat × SObj)} {A : List (PV × Nat)} {W : List (PV × SObj)}
end Go.Pam
namespace Go.Pam
variable {env : Env} {fr : Fr} {σ : Nat → PV} {S : List SObj} {S0 : List SObj} {R : List Nat} {C : List (Nat × SObj)} {A : List (PV × Nat)} {W : List (PV × SObj)}
theorem Hp.grown (h : Hp S0 R S C A W) (j : Nat) {ei : TyI} {ys : List PV} {v v' : PV} {S' : List SObj} (hj : A[j]? = some (v, ei.size)) (hg : growPV ei v ys S = some (v', S')) : Hp S0 R S' C (A.set j (v', ei.size)) W := by
 have happ := (h.app _ (app_mem hj)).1
 cases happ with
 | nil =>
  simp only [growPV] at hg
  split at hg
  ·injection hg with hg; injection hg with h1 h2; subst h1 h2; exact h.repl j _
  ·cases hg
 | full zs hz =>
  simp only [growPV] at hg
  split at hg
  ·injection hg with hg; injection hg with h1 h2; subst h1 h2
   have := h.repl j (sz := ei.size) (zs ++ ys)
   simpa using this
  ·cases hg
 | tip zs id hz =>
  simp only at hz
  simp only [growPV, hz] at hg
  split at hg
  ·injection hg with hg; injection hg with h1 h2; subst h1 h2; exact h.grow j hj _
  ·cases hg
end Go.Pam
namespace Go.Pam
theorem st_int (k : IntKind) (n : Int) : (PV.int k n).strip = .int k n := rfl
theorem st_lst (l : List PV) (t : Tag) : (PV.lst l t).strip = .lst l .none := rfl
theorem st_tup (l : List PV) : (PV.tup l).strip = .tup (l.map PV.strip2) := rfl
theorem st2_int (k : IntKind) (n : Int) : (PV.int k n).strip2 = .int k n := rfl
end Go.Pam
namespace Go.Pam
theorem encSl_some {α : Type} (f : α → PV) (l : List α) : encSl f (some l) = .lst (l.map f) .none := rfl
end Go.Pam
namespace Go.Pam
theorem fc {α : Type} {P : α → Prop} {a : α} {l : List α} (h : P a) (hl : ∀ p ∈ l, P p) : ∀ p ∈ a :: l, P p := fun p hp => by
 rcases List.mem_cons.1 hp with rfl | hp
 ·exact h
 ·exact hl p hp
end Go.Pam
namespace Go.Pam
theorem clean_eI (k : IntKind) : ∀ n, (eI k n).clean = true := fun _ => rfl
theorem clean_eS : ∀ n, (eS n).clean = true := fun _ => rfl
end Go.Pam
namespace Go.Pam
variable {env : Env} {fr : Fr} {σ : Nat → PV} {S : List SObj}
theorem WD.split (n : Nat) {hd tl : List POp} {e : Bool} {K : KS} (P : KS) (h : WH env fr hd σ S fun σ' => WO env fr (tl.take n) σ' S e P) (h2 : ∀ σ' S' e', P σ' S' e' → WO env fr (tl.drop n) σ' S' e' K) :
  WH env fr hd σ S fun σ' => WO env fr tl σ' S e K := by
 obtain ⟨σ1, h1, hp⟩ := h
 exact ⟨σ1, h1, WO.split n P hp h2⟩
end Go.Pam
namespace Go.Pam
theorem ad64 {x y : Int} (h : -9223372036854775808 ≤ x + y ∧ x + y < 9223372036854775808) : ad .i64 x y = x + y := IntWalk.i64_in _ (by omega)
theorem sb64 {x y : Int} (h : -9223372036854775808 ≤ x - y ∧ x - y < 9223372036854775808) : sb .i64 x y = x - y := IntWalk.i64_in _ (by omega)
theorem ml64 {x y : Int} (h : -9223372036854775808 ≤ x * y ∧ x * y < 9223372036854775808) : ml .i64 x y = x * y := IntWalk.i64_in _ (by omega)
theorem cv64 {x : Int} (h : -9223372036854775808 ≤ x ∧ x < 9223372036854775808) : cv .i64 x = x := IntWalk.i64_in _ (by omega)
theorem ad_nat {i : Nat} (h : i < 9223372036854775000) : ad .i64 (i : Int) 1 = ((i + 1 : Nat) : Int) := by rw [ad64 (by omega)]; omega
theorem Sl.at?_nat {α : Type} (a : Sl α) (i : Nat) : Sl.at? a (i : Int) = a.l[i]? := by simp [Sl.at?]
theorem Sl.len_nat {α : Type} (a : Sl α) : Sl.len a = ((a.l.length : Nat) : Int) := rfl
theorem Str.len_nat (s : Str) : Str.len s = ((s.length : Nat) : Int) := rfl
theorem Str.at?_nat (s : Str) (i : Nat) : Str.at? s (i : Int) = (s[i]?).map fun b => (b.toNat : Int) := by simp [Str.at?]
theorem Str.sub?_nat {s : Str} {l h : Nat} (h1 : l ≤ h) (h2 : h ≤ s.length) : Str.sub? s (l : Int) (h : Int) = some ((s.take h).drop l) := by
 unfold Str.sub?
 rw [if_pos (by omega)]
 simp
theorem Str.app?_ok {a b : Str} (h : a.length + b.length < 9223372036854775808) : Str.app? a b = some (a ++ b) := by
 unfold Str.app?
 rw [if_neg]
 show ¬ ((a.length + b.length : Nat) : Int) > 9223372036854775807
 omega
theorem Sl.app?_ok {α : Type} {bytes : Nat} {x : Sl α} {ys : List α} (hy : ys ≠ []) (h : (x.l.length + ys.length) * bytes ≤ 2 ^ 47) : Sl.app? bytes x ys = some (some (x.l ++ ys)) := by
 unfold Sl.app?
 rw [if_pos h]
 cases ys with
 | nil => exact absurd rfl hy
 | cons y ys => rfl
theorem Sl.app?_l {α : Type} {bytes : Nat} {x : Sl α} {ys : List α} (h : (x.l.length + ys.length) * bytes ≤ 2 ^ 47) : ∃ z, Sl.app? bytes x ys = some z ∧ z.l = x.l ++ ys := by
 unfold Sl.app?
 rw [if_pos h]
 cases ys with
 | nil => exact ⟨x, rfl, by simp⟩
 | cons y ys => exact ⟨_, rfl, rfl⟩
theorem Sl.l_some {α : Type} (l : List α) : Sl.l (some l) = l := rfl
theorem Str.bytes_l (s : Str) : (Str.bytes s).l = s.map fun b => (b.toNat : Int) := rfl
theorem shl64_8 {x : Int} (h : 0 ≤ x ∧ x < 1099511627776) : shl? .i64 x 8 = some (256 * x) := by
 unfold shl?
 rw [if_neg (by omega)]
 have h1 : (2 : Int) ^ (min (8 : Int).toNat IntKind.i64.bits) = 256 := by decide
 rw [h1]
 congr 1
 rw [show x * 256 = 256 * x by omega]
 exact IntWalk.i64_in _ (by omega)
theorem or64_byte {x y : Int} (hx : 0 ≤ x ∧ x < 1099511627776) (hy : 0 ≤ y ∧ y < 256) : bOr .i64 (256 * x) y = 256 * x + y := by
 obtain ⟨m, rfl⟩ : ∃ m : Nat, x = m := ⟨x.toNat, by omega⟩
 obtain ⟨b, rfl⟩ : ∃ b : Nat, y = b := ⟨y.toNat, by omega⟩
 unfold bOr
 have h2 : (BitVec.ofInt IntKind.i64.bits (256 * (m : Int)) ||| BitVec.ofInt IntKind.i64.bits (b : Int)).toNat = 2 ^ 8 * m + b := by
  rw [BitVec.toNat_or]
  have e1 : (BitVec.ofInt IntKind.i64.bits (256 * (m : Int))).toNat = 2 ^ 8 * m := by
   rw [show 256 * (m : Int) = ((2 ^ 8 * m : Nat) : Int) by omega, BitVec.ofInt_natCast, BitVec.toNat_ofNat]
   exact Nat.mod_eq_of_lt (by show 2 ^ 8 * m < 2 ^ 64; omega)
  have e2 : (BitVec.ofInt IntKind.i64.bits (b : Int)).toNat = b := by
   rw [BitVec.ofInt_natCast, BitVec.toNat_ofNat]
   exact Nat.mod_eq_of_lt (by show b < 2 ^ 64; omega)
  rw [e1, e2, Nat.two_pow_add_eq_or_of_lt (by omega)]
 rw [h2]
 rw [IntWalk.i64_in _ (by omega)]
 omega
theorem bnd {α β : Type} {x : Option α} {a : α} (h : x = some a) (f : α → Option β) : x.bind f = f a := by rw [h]; rfl
theorem bind_some' {α β : Type} (a : α) (f : α → Option β) : (some a).bind f = f a := rfl
end Go.Pam
namespace Go.Pam
open Go.RowKit Go.Deep Go.WideShapes
def CV (w : World) (cells : List PV) (cs : List Value) : Prop :=
 cells.length = cs.length ∧ ∀ (j : Nat) (c : PV) (v : Value), cells[j]? = some c → cs[j]? = some v → V (g0 w) w 0 c v ∧ v.oneCell' = true
variable {H : Type} {enc : TypeId × Value → H} {P : Program} {w : World} {sp : Nat → Bool} {held : Bool}
def Opens (enc : TypeId × Value → H) (P : Program) (w : World) (sp : Nat → Bool) (held : Bool) (fuel : Nat) (t : TypeId) {α : Type} (f : α → PV) (ok : α → Prop) : Prop :=
 ∀ cs x, DataW.trod enc P w 0 sp held fuel t cs = some x → ∃ a, ok a ∧ CV w (f a).cells cs
theorem CV.one {c : PV} {v : Value} (h : V (g0 w) w 0 c v) (ho : v.oneCell' = true) : CV w [c] [v] := by
 refine ⟨rfl, fun j c' v' hc hv => ?_⟩
 cases j with
 | zero => simp only [List.getElem?_cons_zero, Option.some.injEq] at hc hv; subst hc hv; exact ⟨h, ho⟩
 | succ j => simp at hc
theorem CV.append {a b : List PV} {x y : List Value} (h : CV w a x) (k : CV w b y) : CV w (a ++ b) (x ++ y) := by
 refine ⟨by simp [h.1, k.1], fun j c v hc hv => ?_⟩
 rcases Nat.lt_or_ge j a.length with hj | hj
 ·rw [List.getElem?_append_left hj] at hc
  rw [List.getElem?_append_left (by rw [← h.1]; exact hj)] at hv
  exact h.2 j c v hc hv
 ·rw [List.getElem?_append_right hj] at hc
  rw [List.getElem?_append_right (by rw [← h.1]; exact hj), ← h.1] at hv
  exact k.2 _ c v hc hv
theorem opens_int {fuel : Nat} {t : TypeId} {k : IntKind} (ht : P.underlying t = some (.int k)) : Opens enc P w sp held fuel t (eI k) (fun n => (Lit.int k n).wf = true) := by
 intro cs x h
 obtain ⟨n, rfl, _, hw⟩ := DataW.trod_int ht h
 exact ⟨n, hw, CV.one (.int k n) rfl⟩
theorem pp_of_cell {b o : Nat} {v : Value} (h : w.cell? ⟨b, o, none⟩ = some v) : o < (g0 w).pp b := by
 show o < ppOf w b
 unfold World.cell? at h
 unfold ppOf
 split at h
 ·rename_i c t fr hb
  simp only [Option.isSome_none, Bool.false_eq_true, if_false] at h
  simp only [hb]
  exact (Array.getElem?_eq_some_iff.1 h).1
 ·cases h
theorem opens_slice {α : Type} {f : α → PV} {ok : α → Prop} {fuel : Nat} {t e : TypeId} {sz : Nat} (ht : P.underlying t = some (.slice e)) (hsz : P.cellsOf e = sz) (hpos : 0 < sz) (hf : ∀ a, (f a).cells.length = sz)
  (hsp : ∀ b, sp b = true) (h : ∀ n, n < fuel → Opens enc P w sp held n e f ok) : Opens enc P w sp held fuel t (encSl f) (fun x => x.l.length ≤ maxLen ∧ ∀ a ∈ x.l, ok a) := by
 intro cs x hx
 rcases DataW.trod_slice ht hx with ⟨rfl, _⟩ | ⟨a, len, cap, elems, rest, n, hn, rfl, _, hb, hl, hm, hlen, hel, hrest, _⟩
 ·exact ⟨none, ⟨by simp [Sl.l], by simp [Sl.l]⟩, CV.one .nils rfl⟩
 ·subst hsz
  have hall : ∀ i, i < len → ∃ (cs' : List Value) (y : DataW H × List MemPlace), w.cells? 0 (a.add (i * P.cellsOf e)) (P.cellsOf e) = some cs' ∧ DataW.trod enc P w 0 sp held n e cs' = some y := by
   intro i hi
   have he : elems[i]? = some elems[i] := List.getElem?_eq_getElem (by omega)
   have := hel i hi
   rw [he] at this
   cases hc : w.cells? 0 (a.add (i * P.cellsOf e)) (P.cellsOf e) with
   | none => rw [hc] at this; cases this
   | some cs' => rw [hc] at this; exact ⟨cs', _, rfl, this⟩
  have hch : ∀ i, i < len → ∃ (cs' : List Value) (z : α), w.cells? 0 (a.add (i * P.cellsOf e)) (P.cellsOf e) = some cs' ∧ ok z ∧ CV w (f z).cells cs' := by
   intro i hi
   obtain ⟨cs', y, h1, h2⟩ := hall i hi
   obtain ⟨z, hz, hcv⟩ := h n (by omega) cs' y h2
   exact ⟨cs', z, h1, hz, hcv⟩
  have hlist : ∀ m, m ≤ len → ∃ (zs : List α), zs.length = m ∧ (∀ z ∈ zs, ok z) ∧ ∀ i z, zs[i]? = some z → ∃ cs', w.cells? 0 (a.add (i * P.cellsOf e)) (P.cellsOf e) = some cs' ∧ CV w (f z).cells cs' := by
   intro m
   induction m with
   | zero => exact fun _ => ⟨[], rfl, by simp, by simp⟩
   | succ m ih =>
    intro hm'
    obtain ⟨zs, h1, h2, h3⟩ := ih (by omega)
    obtain ⟨cs', z, g1, g2, g3⟩ := hch m (by omega)
    refine ⟨zs ++ [z], by simp [h1], fun y hy => ?_, fun i y hy => ?_⟩
    ·rcases List.mem_append.1 hy with hy | hy
     ·exact h2 y hy
     ·rw [List.mem_singleton] at hy; subst hy; exact g2
    ·rcases Nat.lt_or_ge i zs.length with hi | hi
     ·rw [List.getElem?_append_left hi] at hy; exact h3 i y hy
     ·have : i = m := by
       have := (List.getElem?_eq_some_iff.1 hy).1
       simp at this; omega
      subst this
      rw [List.getElem?_append_right (by omega), h1, Nat.sub_self] at hy
      simp only [List.getElem?_cons_zero, Option.some.injEq] at hy
      subst hy
      exact ⟨cs', g1, g3⟩
  obtain ⟨zs, z1, z2, z3⟩ := hlist len (Nat.le_refl _)
  refine ⟨some zs, ⟨by simp [Sl.l]; omega, by simpa [Sl.l] using z2⟩, ?_⟩
  show CV w [PV.lst (zs.map f) .none] [Value.slice (some a) len cap]
  refine CV.one ?_ rfl
  have spot0 : ∀ (cs' : List Value), w.cells? 0 (a.add (0 * P.cellsOf e)) (P.cellsOf e) = some cs' → a.spot = none := by
   intro cs' g1
   obtain ⟨b, o, s⟩ := a
   obtain ⟨_, k1, k2⟩ := World.cells?_some g1
   have := k2 0 hpos
   have hl0 : 0 < cs'.length := by omega
   rw [List.getElem?_eq_getElem hl0] at this
   simp only [Nat.zero_mul, Addr.add, if_true] at this
   cases s with
   | none => rfl
   | some s =>
    unfold World.cell? at this
    split at this
    ·simp at this
    ·cases this
  by_cases hz0 : len = 0 ∧ cap = 0
  ·obtain ⟨rfl, rfl⟩ := hz0
   obtain rfl : zs = [] := List.eq_nil_of_length_eq_zero (by omega)
   exact .lst0 a
  ·have hspot : a.spot = none := by
    by_cases hl0 : len = 0
    ·subst hl0
     have hr := hrest (hsp _)
     have h0 : 0 < rest.length := by omega
     have := hr.2 0 (by omega)
     rw [List.getElem?_eq_getElem h0] at this
     cases hc : w.cells? 0 (a.add (0 * P.cellsOf e)) (P.cellsOf e) with
     | none => simp only [Nat.add_zero, hc] at this; cases this
     | some cs' => exact spot0 cs' hc
    ·obtain ⟨cs', g1, g2⟩ := z3 0 _ (List.getElem?_eq_getElem (by omega : 0 < zs.length))
     exact spot0 cs' g1
   obtain ⟨b, o, s⟩ := a
   simp only at hspot
   subst hspot
   have cell : ∀ (i : Nat) (y : α) (j : Nat) (c : PV), zs[i]? = some y → (f y).cells[j]? = some c → ∃ v, w.cell? ⟨b, o + i * P.cellsOf e + j, none⟩ = some v ∧ V (g0 w) w 0 c v ∧ v.oneCell' = true := by
    intro i y j c hy hc
    obtain ⟨cs', g1, g2⟩ := z3 i y hy
    obtain ⟨_, k1, k2⟩ := World.cells?_some g1
    have hj : j < P.cellsOf e := by rw [← hf y]; exact (List.getElem?_eq_some_iff.1 hc).1
    have := k2 j hj
    have hl : j < cs'.length := by omega
    rw [List.getElem?_eq_getElem hl] at this
    have hadd : (Addr.add ⟨b, o, none⟩ (i * P.cellsOf e)).add j = ⟨b, o + i * P.cellsOf e + j, none⟩ := by
     rw [add_mk, add_mk]
    rw [hadd] at this
    exact ⟨cs'[j], this, g2.2 j c cs'[j] hc (List.getElem?_eq_getElem hl)⟩
   have := V.lst (g := g0 w) (w := w) (n := 0) (zs.map f) .none b o cap (P.cellsOf e) (fun i j => (w.cell? ⟨b, o + i * P.cellsOf e + j, none⟩).getD undef) (by rw [List.length_map]; omega)
    (fun i x hx => by
     rw [List.getElem?_map] at hx
     cases hy : zs[i]? with
     | none => rw [hy] at hx; cases hx
     | some y => rw [hy] at hx; simp only [Option.map_some, Option.some.injEq] at hx; subst hx; exact hf y)
    (fun i x j c hx hc => by
     rw [List.getElem?_map] at hx
     cases hy : zs[i]? with
     | none => rw [hy] at hx; cases hx
     | some y => rw [hy] at hx; simp only [Option.map_some, Option.some.injEq] at hx; subst hx; obtain ⟨v, g1, _⟩ := cell i y j c hy hc; exact pp_of_cell g1)
    (fun i x j c hx hc => by
     rw [List.getElem?_map] at hx
     cases hy : zs[i]? with
     | none => rw [hy] at hx; cases hx
     | some y => rw [hy] at hx; simp only [Option.map_some, Option.some.injEq] at hx; subst hx; obtain ⟨v, g1, _⟩ := cell i y j c hy hc; rw [g1]; rfl)
    (fun i x j c hx hc => by
     rw [List.getElem?_map] at hx
     cases hy : zs[i]? with
     | none => rw [hy] at hx; cases hx
     | some y => rw [hy] at hx; simp only [Option.map_some, Option.some.injEq] at hx; subst hx; obtain ⟨v, g1, g2, _⟩ := cell i y j c hy hc; rw [g1]; exact g2)
    (fun i x j hx hj => by
     rw [List.getElem?_map] at hx
     cases hy : zs[i]? with
     | none => rw [hy] at hx; cases hx
     | some y =>
      rw [hy] at hx; simp only [Option.map_some, Option.some.injEq] at hx; subst hx
      obtain ⟨v, g1, _, g3⟩ := cell i y j _ hy (List.getElem?_eq_getElem (by rw [hf y]; exact hj)); rw [g1]; exact g3) trivial
   rw [List.length_map, z1] at this
   exact this
end Go.Pam
namespace Go.Pam
open Go.RowKit Go.Deep Go.WideShapes
variable {w : World}
theorem CV.field {a b : List PV} {cs : List Value} {o s : Nat} (h : CV w a ((cs.drop o).take s)) (k : CV w b (cs.drop (o + s))) : CV w (a ++ b) (cs.drop o) := by
 have := h.append k
 rwa [← List.drop_drop, List.take_append_drop] at this
theorem CV.agg {cells : List PV} {cs : Array Value} (h : CV w cells cs.toList) : V (g0 w) w 0 (.agg cells) (.agg cs) := by
 refine .agg cells cs (by rw [h.1]; simp) (fun i c hi => ?_) (fun v hv => ?_)
 ·have hlt : i < cs.size := by have := (List.getElem?_eq_some_iff.1 hi).1; rw [h.1] at this; simpa using this
  have := (h.2 i c cs[i] hi (by rw [Array.getElem?_toList]; exact Array.getElem?_eq_getElem hlt)).1
  rwa [Array.getD_eq_getD_getElem?, Array.getElem?_eq_getElem hlt]
 ·obtain ⟨i, hi, rfl⟩ := Array.mem_iff_getElem.1 hv
  have hl : i < cells.length := by rw [h.1]; simpa using hi
  exact (h.2 i cells[i] cs[i] (List.getElem?_eq_getElem hl) (by rw [Array.getElem?_toList]; exact Array.getElem?_eq_getElem hi)).2
theorem CV.single {c : PV} {v : Value} {cs : List Value} (h : CV w [c] cs) (hv : cs = [v]) : V (g0 w) w 0 c v := by
 subst hv
 exact (h.2 0 c v rfl rfl).1
variable {H : Type} {enc : TypeId × Value → H} {P : Program} {sp : Nat → Bool} {held : Bool}
theorem open_one {α : Type} {f : α → PV} {ok : α → Prop} {t : TypeId} {v : Value} {d : DataW H} {ps : List MemPlace} (ho : ∀ n, Opens enc P w sp held n t f ok) (hf : ∀ a, (f a).cells = [f a]) (hv : v.cells.toList = [v]) (h : DataW.Trod enc P w 0 sp held t v d ps) :
  ∃ a, ok a ∧ V (g0 w) w 0 (f a) v := by
 obtain ⟨n, hn⟩ := h
 obtain ⟨a, h1, h2⟩ := ho n _ _ hn
 rw [hf] at h2
 exact ⟨a, h1, h2.single hv⟩
theorem cells_slice {e : TypeId} {t : TypeId} {r : Reach} {b : Nat} {v : Value} (ht : P.underlying t = some (.slice e)) (h : Value.okWide P w r b t v) : v.cells.toList = [v] := by
 obtain ⟨a, l, c, rfl⟩ := okWide_slice ht h; rfl
theorem cells_int {k : IntKind} {t : TypeId} {r : Reach} {b : Nat} {v : Value} (ht : P.underlying t = some (.int k)) (h : Value.okWide P w r b t v) : v.cells.toList = [v] := by
 obtain ⟨n, rfl⟩ := okWide_int ht h; rfl
end Go.Pam
namespace Go.Pam
variable {env : Env} {fr : Fr} {σ : Nat → PV} {S : List SObj} {S0 : List SObj} {R : List Nat} {C : List (Nat × SObj)} {A : List (PV × Nat)} {W : List (PV × SObj)}
theorem WB.mono' {pf : PFn} {args : List PV} {K K' : KV} (h : WB env pf args S K) (hk : ∀ v S' e, K v S' e → K' v S' e) : WB env pf args S K' := by
 refine WC.mono h fun x σ S' e hx => ?_
 cases x with
 | normal => obtain ⟨vs, h1, h2⟩ := hx; refine ⟨vs, h1, ?_⟩; split at h2 <;> rename_i hr <;> simp only [hr] <;> exact hk _ _ _ h2
 | exit i => exact hx.elim
 | ret => obtain ⟨vs, h1, h2⟩ := hx; refine ⟨vs, h1, ?_⟩; split at h2 <;> rename_i hr <;> simp only [hr] <;> exact hk _ _ _ h2
theorem leave_ptr {n i : Nat} {S' : List SObj} {e : Bool} : leave n (.ptr i 0) S' e = (.ptr i 0, S', e) := by
 unfold leave
 rw [if_neg (by simp [PV.strip, PV.clean])]
theorem evw_newW {f : FuncId} {pf : PFn} (hi : env.intr f = none) (hf : env.fn f = some pf) {bs : List PV} {cs : List PV} (hs : bs.map PV.strip = bs) (hl : bs.length ≤ pf.ntmps) (hc : cleanL bs = true)
  (h : ∀ S, WB env pf bs S fun v S' e => ∃ i, v = .ptr i 0 ∧ e = false ∧ Hp S [] S' [(i, .cells cs)] [] []) (S : List SObj) : ∃ i S', evw env f bs S = some (.ptr i 0, S', false) ∧ Hp S [] S' [(i, .cells cs)] [] [] := by
 obtain ⟨w0, S1, e1, hb0, i0, rfl, _, _⟩ := (h []).run
 obtain ⟨w, S2, e2, hb, i, rfl, rfl, hp⟩ := (h S).run
 obtain ⟨k0, hk0⟩ := body_lim hb0
 obtain ⟨k, hk⟩ := body_lim hb
 refine ⟨i, S2, lim_of (k0 + k + 1) fun k' hk' => ?_, hp⟩
 obtain ⟨j, rfl⟩ : ∃ j, k' = j + 1 := ⟨k' - 1, by omega⟩
 simp only [ev, hi, hf, hl, if_true, hs, hc, hk0 j (by omega), hk j (by omega), leave_ptr]
 simp [PV.strip, PV.clean]
theorem evw_newR {f : FuncId} {pf : PFn} (hi : env.intr f = none) (hf : env.fn f = some pf) {args : List PV} {S : List SObj} {id : Nat} {c' cs : List PV} (hl : args.length ≤ pf.ntmps) (hc : cleanL (args.map PV.strip) = false)
  (h : WB env pf args S fun v S' e => ∃ i, v = .ptr i 0 ∧ e = false ∧ Hp S [id] S' [(i, .cells cs), (id, .cells c')] [] []) : ∃ i S', evw env f args S = some (.ptr i 0, S', false) ∧ Hp S [id] S' [(i, .cells cs), (id, .cells c')] [] [] := by
 obtain ⟨r, h1, i, S', h2, h3⟩ := evw_storeW (K := fun r => ∃ i S', r = (.ptr i 0, S', false) ∧ Hp S [id] S' [(i, .cells cs), (id, .cells c')] [] []) hi hf hl hc (h.mono' fun v S' e hv => by
  obtain ⟨i, rfl, rfl, hp⟩ := hv
  exact ⟨i, S', leave_ptr, hp⟩)
 subst h2
 exact ⟨i, S', h1, h3⟩
theorem Hp.new_lt {S' : List SObj} {i : Nat} {o : SObj} {C' : List (Nat × SObj)} {A' : List (PV × Nat)} {W' : List (PV × SObj)} (N : Hp S [] S' ((i, o) :: C') A' W') : S.length ≤ i := by
 rcases (N.cel _ List.mem_cons_self).1 with h | h
 ·exact h
 ·cases h
theorem Hp.after {S' : List SObj} {R' : List Nat} {C' : List (Nat × SObj)} {A' : List (PV × Nat)} {W' : List (PV × SObj)} (H : Hp S0 R S C A W) (N : Hp S R' S' C' A' W') (hC : ∀ p ∈ C, p.1 ∉ R') (hR : ∀ i ∈ R', S0.length ≤ i ∨ i ∈ R)
  (hA : ∀ q ∈ A, ∀ i, tipOf q.1 = some i → i ∉ R') (hW : ∀ q ∈ W, ∀ i, rowAt q.1 = some i → i ∉ R') : Hp S0 R S' C A W := by
 have hl := H.len
 have hn := N.len
 have keep : ∀ k, k < S.length → k ∉ R' → S'[k]? = S[k]? := fun k hk hr => N.old k hk hr
 refine ⟨by omega, fun k hk hr => ?_, fun p hp => ⟨(H.cel p hp).1, (keep p.1 (lt_of_get (H.cel p hp).2.1) (hC p hp)).trans (H.cel p hp).2.1, (H.cel p hp).2.2⟩, H.nod,
  fun q hq => ⟨(H.app q hq).1.keep fun id hid => keep id ((H.app q hq).1.lt hid).1 (hA q hq id hid), (H.app q hq).2⟩, H.dis,
  fun q hq id hid => ⟨(H.row q hq id hid).1, (keep id (lt_of_get (H.row q hq id hid).2.1) (hW q hq id hid)).trans (H.row q hq id hid).2.1, (H.row q hq id hid).2.2⟩, H.rdis⟩
 have : k ∉ R' := fun h => by
  rcases hR k h with h | h
  ·omega
  ·exact hr h
 exact (keep k (by omega) this).trans (H.old k hk hr)
theorem Hp.callNew {S' : List SObj} {i : Nat} {o : SObj} (H : Hp S0 R S C A W) (N : Hp S [] S' [(i, o)] [] []) : Hp S0 R S' ((i, o) :: C) A W := by
 have hi := N.new_lt
 have hl := H.len
 have M := H.after N (fun _ _ h => by cases h) (fun _ h => by cases h) (fun _ _ _ _ h => by cases h) (fun _ _ _ _ h => by cases h)
 refine { M with cel := fun p hp => ?_, nod := List.pairwise_cons.2 ⟨fun p hp => by have := lt_of_get (H.cel p hp).2.1; simp only; omega, H.nod⟩ }
 rcases List.mem_cons.1 hp with rfl | hp
 ·exact ⟨.inl (by simp only; omega), (N.cel _ List.mem_cons_self).2⟩
 ·exact M.cel p hp
theorem Hp.callNewR {S' : List SObj} {i id : Nat} {cs c c' : List PV} (H : Hp S0 R S C A W) (j : Nat) (hj : C[j]? = some (id, .cells c)) (N : Hp S [id] S' [(i, .cells cs), (id, .cells c')] [] []) : Hp S0 R S' ((i, .cells cs) :: C.set j (id, .cells c')) A W := by
 have hl := H.len
 have hn := N.len
 have hid := H.get j hj
 have hidlt := lt_of_get hid
 have hi : S.length ≤ i := by
  rcases (N.cel _ List.mem_cons_self).1 with h | h
  ·exact h
  ·have h1 := List.pairwise_cons.1 N.nod
   exact absurd (List.mem_singleton.1 h) (h1.1 _ List.mem_cons_self)
 have keep : ∀ k, k < S.length → k ≠ id → S'[k]? = S[k]? := fun k hk hne => N.old k hk (by simpa using hne)
 have hm := H.cel _ (List.mem_of_getElem? hj)
 have hset : ∀ p ∈ C.set j (id, .cells c'), p = (id, .cells c') ∨ p ∈ C ∧ p.1 ≠ id := by
  intro p hp
  rcases mem_set_of hp with rfl | ⟨k, hne, hk⟩
  ·exact .inl rfl
  ·exact .inr ⟨List.mem_of_getElem? hk, pw_get (P := fun p q : Nat × SObj => p.1 ≠ q.1) H.nod (fun _ _ h => Ne.symm h) hk hj hne⟩
 refine ⟨by omega, fun k hk hr => ?_, fun p hp => ?_, List.pairwise_cons.2 ⟨fun p hp => ?_, (H.set j hj c').nod⟩, fun q hq => ⟨(H.app q hq).1.keep fun k hk => ?_, (H.app q hq).2⟩, H.dis, fun q hq k hk => ⟨(H.row q hq k hk).1, ?_, (H.row q hq k hk).2.2⟩, H.rdis⟩
 ·have : k ≠ id := by
   rintro rfl
   rcases hm.1 with h | h
   ·simp only at h; omega
   ·exact hr h
  exact (keep k (by omega) this).trans (H.old k hk hr)
 ·rcases List.mem_cons.1 hp with rfl | hp
  ·exact ⟨.inl (by simp only; omega), N.get 0 rfl, rfl⟩
  ·rcases hset p hp with rfl | ⟨hp, hne⟩
   ·exact ⟨hm.1, N.get 1 rfl, rfl⟩
   ·exact ⟨(H.cel p hp).1, (keep p.1 (lt_of_get (H.cel p hp).2.1) hne).trans (H.cel p hp).2.1, (H.cel p hp).2.2⟩
 ·rcases hset p hp with rfl | ⟨hp, hne⟩
  ·simp only; omega
  ·have := lt_of_get (H.cel p hp).2.1; simp only; omega
 ·obtain ⟨hlt, n, hn'⟩ := (H.app q hq).1.lt hk
  refine keep k hlt ?_
  rintro rfl
  rw [hn'] at hid; cases hid
 ·obtain ⟨_, hn', hk'⟩ := H.row q hq k hk
  refine (keep k (lt_of_get hn') ?_).trans hn'
  rintro rfl
  rw [hn'] at hid; injection hid with hid; rw [hid] at hk'; cases hk'
/-! errors.Is of two errors that are numbers of one type -/
theorem evw_intr {f : FuncId} {h : List PV → List SObj → Option (PV × List SObj × Bool)} {args : List PV} {r : PV × List SObj × Bool} (hi : env.intr f = some h) (hr : h args S = some r) : evw env f args S = some r := by
 refine lim_of 1 fun k hk => ?_
 obtain ⟨j, rfl⟩ : ∃ j, k = j + 1 := ⟨k - 1, by omega⟩
 simp only [ev, hi, hr]
end Go.Pam
namespace Go.Pam
variable {env : Env} {fr : Fr} {σ : Nat → PV} {S : List SObj} {S0 : List SObj} {R : List Nat} {C : List (Nat × SObj)} {A : List (PV × Nat)} {W : List (PV × SObj)}
def WK (env : Env) (fr : Fr) (ops : List POp) (hist : List (List SObj)) (pend : List (TypeId × PV × PV)) (σ : Nat → PV) (S : List SObj) (e : Bool) (K : KS) : Prop :=
 PendOk env.ctx pend S → ∃ σ' S' e', evChain env.ctx (evw env) fr ops hist pend σ S e = some (σ', S', e') ∧ K σ' S' e'
variable {wr : Bool} {hist : List (List SObj)} {pend : List (TypeId × PV × PV)} {rest : List POp} {op : Op} {d : Option Nat} {e : Bool} {K : KS} {v : PV}
theorem pend_nil {ctx : Ctx} : PendOk ctx [] S := fun q hq => by cases hq
theorem pend_cons {ctx : Ctx} {t : TypeId} {a : PV} (h : loadPV ctx t a S = some v) (hp : PendOk ctx pend S) : PendOk ctx ((t, a, v) :: pend) S := by
 intro q hq
 rcases List.mem_cons.1 hq with rfl | hq
 ·exact h
 ·exact hp q hq
theorem hist_nil {p : List SObj → Prop} : ∀ T ∈ ([] : List (List SObj)), p T := fun T hT => by cases hT
theorem hist_cons {p : List SObj → Prop} (h : p S) (hh : ∀ T ∈ hist, p T) : ∀ T ∈ S :: hist, p T := by
 intro T hT
 rcases List.mem_cons.1 hT with rfl | hT
 ·exact h
 ·exact hh T hT
theorem ld {ctx : Ctx} {t : TypeId} {id off : Nat} {cs : List PV} (hg : S[id]? = some (.cells cs)) (hp : partOf ctx t cs off = some v) : loadPV ctx t (.ptr id off) S = some v := by
 simp only [loadPV, hg, hp]
theorem WK.nil (h : K σ S e) : WK env fr [] hist pend σ S e K := fun _ => ⟨_, _, _, rfl, h⟩
theorem WK.go0 {t : Nat} {want b : Bool} (hb : σ t = .bool b) (hw : (b == want) = true)
  (h : WK env fr (⟨d, op, none, wr⟩ :: rest) hist pend σ S e K) : WK env fr (⟨d, op, some (t, want), wr⟩ :: rest) hist pend σ S e K := by
 intro hp
 obtain ⟨σ1, S1, e1, h1, h2⟩ := h hp
 refine ⟨σ1, S1, e1, ?_, h2⟩
 unfold evChain at h1 ⊢
 simp only [wantedPV, hb, hw] at h1 ⊢
 exact h1
theorem WK.by {t : Nat} {want b : Bool} (hd : dstOk fr.ntmps d = true) (hb : σ t = .bool b) (hw : (b == want) = false) (h : WK env fr rest hist pend (upd σ d (.tup [])) S e K) : WK env fr (⟨d, op, some (t, want), wr⟩ :: rest) hist pend σ S e K := by
 intro hp
 obtain ⟨σ1, S1, e1, h1, h2⟩ := h hp
 refine ⟨σ1, S1, e1, ?_, h2⟩
 unfold evChain
 simp only [hd, if_true, wantedPV, hb, hw]
 exact h1
theorem WK.by0 {t : Nat} {want : Bool} (hd : dstOk fr.ntmps d = true) (hb : σ t = .tup []) (h : WK env fr rest hist pend (upd σ d (.tup [])) S e K) : WK env fr (⟨d, op, some (t, want), wr⟩ :: rest) hist pend σ S e K := by
 intro hp
 obtain ⟨σ1, S1, e1, h1, h2⟩ := h hp
 refine ⟨σ1, S1, e1, ?_, h2⟩
 unfold evChain
 simp only [hd, if_true, wantedPV, hb]
 exact h1
theorem WK.step {S' : List SObj} {e' : Bool} (hd : dstOk fr.ntmps d = true) (hs : stF env fr σ S ⟨d, op, none, wr⟩ = some (v, S', e')) (hS : S' = S) (he : e' = false) (hc : chained ⟨d, op, none, wr⟩ = false) (hi : indep env.ctx σ ⟨d, op, none, wr⟩ = true)
  (h : WK env fr rest hist pend (upd σ d v) S e K) : WK env fr (⟨d, op, none, wr⟩ :: rest) hist pend σ S e K := by
 intro hp
 obtain ⟨σ1, S1, e1, h1, h2⟩ := h hp
 refine ⟨σ1, S1, e1, ?_, h2⟩
 unfold evChain
 simp only [hd, if_true, wantedPV]
 unfold stF at hs
 rw [hs]
 simp only [hc, Bool.false_eq_true, if_false, same_of hS he, if_true, hi]
 exact h1
theorem evChain_hist {ctx : Ctx} {call : Call'} : ∀ (l : List POp) (hist hist' : List (List SObj)) (pend : List (TypeId × PV × PV)) (σ : Nat → PV) (S : List SObj) (e : Bool) (r : (Nat → PV) × List SObj × Bool),
  evChain ctx call fr l hist pend σ S e = some r → (∀ T ∈ hist', T ∈ hist ∨ T = S) → evChain ctx call fr l hist' pend σ S e = some r
 | [], _, _, _, _, _, _, _, h, _ => h
 | p :: l, hist, hist', pend, σ, S, e, r, h, hh => by
  simp only [evChain] at h ⊢
  split at h
  case isFalse => cases h
  rename_i hd
  simp only [hd, if_true]
  split at h
  ·cases h
  ·exact evChain_hist l hist hist' _ _ _ _ _ h hh
  ·split at h
   ·cases h
   rename_i v S' e' hs
   split at h
   ·rename_i hch
    split at h
    case isFalse => cases h
    rename_i hpp
    simp only [hch, if_true, if_pos hpp]
    refine evChain_hist l _ _ _ _ _ _ _ h fun T hT => ?_
    rcases List.mem_cons.1 hT with rfl | hT
    ·exact .inl List.mem_cons_self
    ·rcases hh T hT with h1 | rfl
     ·exact .inl (List.mem_cons_of_mem _ h1)
     ·exact .inl List.mem_cons_self
   ·rename_i hch
    simp only [if_neg hch]
    split at h
    case isFalse => cases h
    rename_i hsame
    simp only [hsame, if_true]
    split at h
    ·rename_i hin
     simp only [hin, if_true]
     exact evChain_hist l _ _ _ _ _ _ _ h hh
    ·rename_i hin
     simp only [if_neg hin]
     split at h
     case h_2 => cases h
     rename_i t a hlo
     split at h
     case isFalse => cases h
     rename_i hall
     have hop : ∃ x, p.op = .load t x ∧ opd σ x = a := by
      revert hlo
      generalize p.op = o
      intro hlo
      cases o <;> simp only [loadOf, reduceCtorEq] at hlo
      injection hlo with hlo; injection hlo with h1 h2
      subst h1
      exact ⟨_, rfl, h2⟩
     obtain ⟨x, hop, hx⟩ := hop
     have hwr : p.wr = false := by
      unfold chained at hch
      rw [hop] at hch
      cases hw : p.wr with
      | false => rfl
      | true => rw [hw] at hch; exact absurd rfl hch
     have hv : loadPV ctx t a S = some v := by
      unfold evStepF at hs
      rw [hop, hwr] at hs
      simp only [frzArgs, frzT, Bool.false_eq_true, if_false, evStep, hx] at hs
      cases hq : loadPV ctx t a S with
      | none => rw [hq] at hs; cases hs
      | some y => rw [hq] at hs; simp at hs; rw [hs.1]
     have hall' : ∀ T ∈ hist', loadPV ctx t a T = some v := by
      intro T hT
      rcases hh T hT with h1 | rfl
      ·exact hall T h1
      ·exact hv
     simp only [if_pos hall']
     exact evChain_hist l _ _ _ _ _ _ _ h hh
theorem WK.callP (hd : dstOk fr.ntmps d = true) (hs : stF env fr σ S ⟨d, op, none, wr⟩ = some (v, S, false)) (hc : chained ⟨d, op, none, wr⟩ = true)
  (h : WK env fr rest hist pend (upd σ d v) S (e || false) K) : WK env fr (⟨d, op, none, wr⟩ :: rest) hist pend σ S e K := by
 intro hp
 obtain ⟨σ1, S1, e1, h1, h2⟩ := h hp
 refine ⟨σ1, S1, e1, ?_, h2⟩
 unfold evChain
 simp only [hd, if_true, wantedPV]
 unfold stF at hs
 rw [hs]
 simp only [hc, if_true, if_pos hp]
 refine evChain_hist _ _ _ _ _ _ _ _ h1 fun T hT => ?_
 rcases List.mem_cons.1 hT with rfl | hT
 ·exact .inr rfl
 ·exact .inl hT
theorem WK.turn {S' : List SObj} {e' : Bool} (hd : dstOk fr.ntmps d = true) (hs : stF env fr σ S ⟨d, op, none, wr⟩ = some (v, S', e')) (hc : chained ⟨d, op, none, wr⟩ = true)
  (h : PendOk env.ctx pend S' ∧ WK env fr rest (S :: hist) pend (upd σ d v) S' (e || e') K) : WK env fr (⟨d, op, none, wr⟩ :: rest) hist pend σ S e K := by
 intro _
 obtain ⟨σ1, S1, e1, h1, h2⟩ := h.2 h.1
 refine ⟨σ1, S1, e1, ?_, h2⟩
 unfold evChain
 simp only [hd, if_true, wantedPV]
 unfold stF at hs
 rw [hs]
 simp only [hc, if_true, if_pos h.1]
 exact h1
theorem WK.ex {P : PV → List SObj → Prop} (hd : dstOk fr.ntmps d = true) (hs : ∃ v' S', stF env fr σ S ⟨d, op, none, wr⟩ = some (v', S', false) ∧ P v' S') (hc : chained ⟨d, op, none, wr⟩ = true)
  (h : ∀ v' S', P v' S' → PendOk env.ctx pend S' ∧ WK env fr rest (S :: hist) pend (upd σ d v') S' (e || false) K) : WK env fr (⟨d, op, none, wr⟩ :: rest) hist pend σ S e K := by
 obtain ⟨v', S', h1, h2⟩ := hs
 exact WK.turn hd h1 hc (h _ _ h2)
theorem WK.load {t : TypeId} {a : Operand} {id off : Nat} (hd : dstOk fr.ntmps d = true) (ha : opd σ a = .ptr id off) (hv : loadPV env.ctx t (.ptr id off) S = some v) (hh : ∀ T ∈ hist, loadPV env.ctx t (.ptr id off) T = some v)
  (h : WK env fr rest hist ((t, .ptr id off, v) :: pend) (upd σ d v) S e K) : WK env fr (⟨d, .load t a, none, false⟩ :: rest) hist pend σ S e K := by
 intro hp
 obtain ⟨σ1, S1, e1, h1, h2⟩ := h (pend_cons hv hp)
 refine ⟨σ1, S1, e1, ?_, h2⟩
 unfold evChain
 simp only [hd, if_true, wantedPV, evStepF, frzArgs, frzT, evStep, ha, hv, Option.map_some, chained, chainedOp, Bool.or_false, Bool.false_eq_true, if_false, sameS_refl, Bool.and_true, if_true, indep, indepOp, Bool.not_false, Bool.true_and, Bool.false_and, loadOf, if_pos hh]
 exact h1
theorem WC.drawC {hd tl : List POp} {K : KX} (h : WK env fr hd [] [] σ S e fun σ' S' e' => WO env fr tl σ' S' e' fun σ' S' e' => K .normal σ' S' e') : WC env fr (.drawC hd tl) σ S e K := by
 obtain ⟨σ1, S1, e1, h1, σ2, S2, e2, h2, h3⟩ := h pend_nil
 refine ⟨_, _, _, _, ?_, h3⟩
 simp only [codeW, h1, h2]
end Go.Pam
namespace Go.Pam
variable {env : Env} {fr : Fr} {σ : Nat → PV} {S : List SObj} {S0 : List SObj} {R : List Nat} {C : List (Nat × SObj)} {A : List (PV × Nat)} {W : List (PV × SObj)}
variable {α : Type} {f : α → PV} {sz : Nat} {fz : Bool} {x : Sl α} {v : PV}
def rowO {α : Type} (f : α → PV) (sz : Nat) (fz : Bool) (x : Sl α) : SObj := .row (x.l.map f) sz fz
theorem truncS_row {S : List SObj} {id n sz : Nat} {xs : List PV} (h : S[id]? = some (.row xs sz false)) (hn : n = xs.length) : truncS (.rsl id n) S = S := by
 simp [truncS, h, hn]
def IsW {α : Type} (x : Sl α) (v : PV) : Prop := match x with
 | none => v = .nils
 | some l => (v = .emp ∧ l = []) ∨ ∃ id, v = .rsl id l.length
theorem IsW.upd {x y : Sl α} (h : IsW x v) (hn : x.isNil = y.isNil) (hl : x.l.length = y.l.length) : IsW y v := by
 cases x with
 | none => cases y with
  | none => exact h
  | some l => cases hn
 | some l => cases y with
  | none => cases hn
  | some m =>
   simp only [Sl.l, Option.getD_some] at hl
   rcases h with ⟨h1, rfl⟩ | ⟨id, h1⟩
   ·exact .inl ⟨h1, List.length_eq_zero_iff.1 hl.symm⟩
   ·exact .inr ⟨id, by rw [← hl]; exact h1⟩
theorem IsW.at {i : Int} {y : α} (h : IsW x v) (hy : Sl.at? x i = some y) : ∃ id, v = .rsl id x.l.length ∧ 0 ≤ i ∧ i < x.l.length ∧ x.l[i.toNat]? = some y := by
  unfold Sl.at? at hy
  split at hy
  case isFalse => cases hy
  rename_i h0
  have hlt : i.toNat < x.l.length := (List.getElem?_eq_some_iff.1 hy).1
  cases x with
  | none => simp [Sl.l] at hy
  | some l => rcases h with ⟨_, rfl⟩ | ⟨id, rfl⟩
              · simp [Sl.l] at hy
              · exact ⟨id, rfl, h0, by omega, hy⟩
def Sl.set (x : Sl α) (i : Int) (y : α) : Sl α := x.map fun l => l.set i.toNat y
theorem Sl.set_l (x : Sl α) (i : Int) (y : α) : (x.set i y).l = x.l.set i.toNat y := by cases x <;> rfl
theorem IsW.set (h : IsW x v) (i : Int) (y : α) : IsW (x.set i y) v := h.upd (by cases x <;> rfl) (by rw [Sl.set_l, List.length_set])
/-! How they are made -/
def Sl.emp (x : Sl α) : Sl α := x.map fun _ => []
theorem born_app (H : Hp S0 R S C A W) (j : Nat) {y z : Sl α} {w : PV} {a b : Operand} {t u e : TypeId} {ei : TyI} (hj : W[j]? = some (v, rowO f ei.size false x))
    (ho : opd σ a = v) (hx : IsW x v) (hb : opd σ b = w) (hw : IsSl f y w)
    (ht : (env.ctx.ty t).map (·.und) = some (.slice e)) (hu : (env.ctx.ty u).map (·.und) = some (.slice e)) (he : env.ctx.ty e = some ei)
    (hok : (decide (ei.size ≠ 0) && decide (ei.bytes ≠ 0) && ei.zero.storable && decide (ei.zero.cells.length = ei.size)) = true)
    (hc : ∀ a, (f a).cells.length = ei.size) (hz : Sl.app? ei.bytes x y.l = some z) :
    ∃ v' S', birthPV env.ctx σ S (.call ⟨.builtin .append, #[a, b], #[t, u]⟩) = some (v', S') ∧ IsW z v' ∧ Hp S0 R S' C A (W.set j (v', rowO f ei.size false z)) := by
  simp only [Bool.and_eq_true, decide_eq_true_eq] at hok
  obtain ⟨⟨⟨k1, k2⟩, k3⟩, k4⟩ := hok
  cases hti : env.ctx.ty t with
  | none => rw [hti] at ht; cases ht
  | some ti =>
  rw [hti] at ht
  have ht' : ti.und = .slice e := by simpa using ht
  cases hui : env.ctx.ty u with
  | none => rw [hui] at hu; cases hu
  | some ui =>
  rw [hui] at hu
  have hu' : ui.und = .slice e := by simpa using hu
  unfold Sl.app? at hz
  split at hz
  case isFalse => cases hz
  rename_i hfit
  injection hz with hz
  have hlist : listOf w = some (y.l.map f) := by
    cases y with
    | none => cases hw; rfl
    | some l => obtain ⟨tag, rfl⟩ := hw; rfl
  have setself : ∀ (q : PV × SObj), W[j]? = some q → W.set j q = W := by
    intro q hq
    apply List.ext_getElem?
    intro i
    rw [List.getElem?_set]
    split
    · rename_i hi; subst hi; rw [hq]; split
      · rfl
      · have := (List.getElem?_eq_some_iff.1 hq).1; omega
    · rfl
  cases hemp : y.l.isEmpty with
  | true =>
    rw [hemp] at hz
    simp only [if_true] at hz
    subst hz
    have hnil : y.l = [] := by simpa using hemp
    refine ⟨v, S, ?_, hx, by rw [setself _ hj]; exact H⟩
    have happ : ∀ s, isSlice s = true → appendPV env.ctx #[t, u] s w S = some (s, S) := by
      intro s hs
      simp only [appendPV, List.getElem?_toArray, List.getElem?_cons_zero, List.getElem?_cons_succ, hti, hui, hlist, ht', hu', he]
      simp [hnil, hs]
    simp only [birthPV, List.map_cons, List.map_nil, ho, hb]
    cases x with
    | none => cases hx; simp only [hlist, hnil, List.map_nil]; exact happ _ rfl
    | some l => rcases hx with ⟨rfl, rfl⟩ | ⟨id, rfl⟩
                · simp only [hlist, hnil, List.map_nil]; exact happ _ rfl
                · rw [truncS_row (H.getW j hj (id := id) rfl) (by simp [Sl.l])]; exact happ _ rfl
  | false =>
    rw [hemp] at hz
    simp only [Bool.false_eq_true, if_false] at hz
    subst hz
    have hne : (y.l.map f).isEmpty = false := by simpa using hemp
    have hne' : y.l.map f ≠ [] := by simpa using hemp
    have hsz := sized_map hc y.l
    have cond : ¬ (sizedAll ei.size (y.l.map f) = false ∨ ei.size = 0 ∨ ei.bytes = 0 ∨ ei.zero.storable = false ∨ ei.zero.cells.length ≠ ei.size) := by
      rw [hsz]; simp [k1, k2, k3, k4]
    have happ : ∀ s, appendPV env.ctx #[t, u] s w S = growPV ei s (y.l.map f) S := by
      intro s
      simp only [appendPV, List.getElem?_toArray, List.getElem?_cons_zero, List.getElem?_cons_succ, hti, hui, hlist, ht', hu', he, hne, Bool.false_eq_true, if_false]
      rw [if_neg cond]
      rfl
    -- a new row
    have born : x.l = [] → rowAt v = none → birthPV.bornApp env.ctx #[t, u] w S = some (.rsl S.length y.l.length, S ++ [.row (y.l.map f) ei.size false]) ∧
        Hp S0 R (S ++ [.row (y.l.map f) ei.size false]) C A (W.set j (.rsl S.length y.l.length, rowO f ei.size false (some (x.l ++ y.l)))) := by
      intro hl hv
      have hfit' : (y.l.map f).length * ei.bytes ≤ 2 ^ 47 := by have h := hfit; rw [hl] at h; simpa using h
      have e0 : rowO f ei.size false (some (x.l ++ y.l)) = .row (y.l.map f) ei.size false := by
        show SObj.row ((x.l ++ y.l).map f) ei.size false = _
        rw [hl]; rfl
      rw [e0]
      refine ⟨?_, ?_⟩
      · unfold birthPV.bornApp
        rw [happ]
        simp only [growPV, hfit', if_true]
        simp
      · have h1 := H.more (.row (y.l.map f) ei.size false)
        have h2 := H.addW y.l.length (.row (y.l.map f) ei.size false) rfl
        refine { h1 with row := fun q hq id hid => ?_, rdis := pw_opt H.rdis (x := (PV.rsl S.length y.l.length, SObj.row (y.l.map f) ei.size false)) fun m hm k q _ hk he2 => ?_ }
        · rcases mem_set_of hq with rfl | ⟨k, hne, hk⟩
          · have := h2.row (.rsl S.length y.l.length, .row (y.l.map f) ei.size false) List.mem_cons_self id hid
            exact this
          · exact h1.row q (List.mem_of_getElem? hk) id hid
        · injection hm with hm; subst hm
          have := lt_of_get (H.row q (List.mem_of_getElem? hk) _ he2).2.1
          omega
    simp only [birthPV, List.map_cons, List.map_nil, ho, hb]
    cases x with
    | none =>
      cases hx
      obtain ⟨b1, b2⟩ := born rfl rfl
      refine ⟨_, _, ?_, .inr ⟨S.length, by simp [Sl.l]⟩, b2⟩
      simp only [hlist]
      split
      · rename_i h; injection h with h; exact absurd h hne'
      · exact b1
    | some l =>
      rcases hx with ⟨rfl, rfl⟩ | ⟨id, rfl⟩
      · obtain ⟨b1, b2⟩ := born rfl rfl
        refine ⟨_, _, ?_, .inr ⟨S.length, by simp [Sl.l]⟩, b2⟩
        simp only [hlist]
        split
        · rename_i h; injection h with h; exact absurd h hne'
        · exact b1
      · have hg := H.getW j hj (id := id) rfl
        have hfit : (l.length + y.l.length) * ei.bytes ≤ 2 ^ 47 := hfit
        refine ⟨.rsl S.length (l.length + y.l.length), S.set id .dead ++ [.row (l.map f ++ y.l.map f) ei.size false], ?_, .inr ⟨S.length, by simp [Sl.l]⟩, ?_⟩
        · rw [truncS_row hg (by simp [Sl.l])]
          simp only [happ, growPV, hg, rowO, Sl.l, Option.getD_some]
          rw [if_pos ⟨(List.length_map _).symm, trivial, by rw [List.length_map, List.length_map]; exact hfit⟩, List.length_map, List.length_map]
        · have := H.growW j hj (id := id) rfl (l.length + y.l.length) (.row (l.map f ++ y.l.map f) ei.size false) rfl
          have e0 : rowO f ei.size false (some (Sl.l (some l : Sl α) ++ y.l)) = .row (l.map f ++ y.l.map f) ei.size false := by
            show SObj.row ((l ++ y.l).map f) ei.size false = _
            rw [List.map_append]
          rw [e0]; exact this
/-! How they become lists -/
theorem IsW.frz (H : Hp S0 R S C A W) (j : Nat) (hj : W[j]? = some (v, rowO f sz fz x)) (hx : IsW x v) :
    ∃ S', frz1 v S = (encSl f x, S') ∧ Hp S0 R S' C A (W.set j (v, rowO f sz true x)) := by
  cases hr : rowAt v with
  | none =>
    have h1 : frz1 v S = (encSl f x, S) := by
      cases x with
      | none => cases hx; rfl
      | some l => rcases hx with ⟨rfl, rfl⟩ | ⟨id, rfl⟩
                  · rfl
                  · cases hr
    refine ⟨S, h1, ?_⟩
    refine { H with row := fun q hq id hid => ?_, rdis := pw_opt H.rdis (x := (v, rowO f sz true x)) fun m hm k q _ hk he2 => by rw [hr] at hm; cases hm }
    rcases mem_set_of hq with rfl | ⟨k, hne, hk⟩
    · rw [hr] at hid; cases hid
    · exact H.row q (List.mem_of_getElem? hk) id hid
  | some id =>
    have hg := H.getW j hj hr
    cases x with
    | none => cases hx; cases hr
    | some l => rcases hx with ⟨rfl, rfl⟩ | ⟨id', rfl⟩
                · cases hr
                · injection hr with hr; subst hr
                  refine ⟨S.set id' (rowO f sz true (some l)), ?_, H.setW j hj rfl _ rfl⟩
                  unfold frz1 frzQ
                  simp only [hg, rowO, Sl.l, Option.getD_some, List.length_map, if_true]
                  rfl
theorem fz_tmp' {t : Nat} {xs : List Operand} {r : (Nat → PV) × List SObj} (h : frzQ (σ t) S = none) (hs : frzT xs σ S = r) : frzT (.tmp t :: xs) σ S = r := by
 simp only [frzT, h]; exact hs
theorem fl_W {u u' : PV} {S' S'' : List SObj} {vs vs' : List PV} (h : frz1 u S = (u', S')) (hs : frzL vs S' = (vs', S'')) : frzL (u :: vs) S = (u' :: vs', S'') := by
 simp only [frzL, h, hs]
theorem fl_cons' {u : PV} {S'' : List SObj} {vs vs' : List PV} (h : frzQ u S = none) (hs : frzL vs S = (vs', S'')) : frzL (u :: vs) S = (u :: vs', S'') := by
 have h1 : frz1 u S = (u, S) := by unfold frz1; rw [h]; rfl
 exact fl_W h1 hs
theorem IsSl.frz {u : PV} (h : IsSl f x u) : frzQ u S = none := by
 cases x with
 | none => cases h; rfl
 | some l => obtain ⟨tag, rfl⟩ := h; rfl
/-! A function that hands on a row as such -/
theorem bzx {op : Op} {d : Option Nat} {g : Option (Nat × Bool)} {σ1 : Nat → PV} {S1 : List SObj} {P : PV → List SObj → Prop} (hz : frzT (frzArgs env.ctx σ op) σ S = (σ1, S1)) (hs : ∃ v' S', birthPV env.ctx σ1 S1 op = some (v', S') ∧ P v' S') (hc : callV op = none := by rfl) :
  ∃ v' S', stF env fr σ S ⟨d, op, g, true⟩ = some (v', S', false) ∧ P v' S' := by
 obtain ⟨v', S', h1, h2⟩ := hs
 exact ⟨v', S', bz hz h1 hc, h2⟩
theorem bzn {op : Op} {d : Option Nat} {g : Option (Nat × Bool)} {P : PV → List SObj → Prop} (hz : frzT (frzArgs env.ctx σ op) σ S = (σ, S)) (hs : ∃ v' S', birthPV env.ctx σ S op = some (v', S') ∧ P v' S') (hc : callV op = none := by rfl) :
  ∃ v' S', stF env fr σ S ⟨d, op, g, true⟩ = some (v', S', false) ∧ P v' S' := bzx hz hs hc
end Go.Pam
namespace Go.Pam
variable {env : Env} {fr : Fr} {σ : Nat → PV} {S : List SObj} {S0 : List SObj} {R : List Nat} {C : List (Nat × SObj)} {A : List (PV × Nat)} {W : List (PV × SObj)}
/-! Arrays of their own -/
def IsArr {α : Type} (n : Nat) (x : Sl α) (v : PV) : Prop := (∃ id, v = .ptr id 0) ∧ x.l.length = n
variable {α : Type} {f : α → PV} {sz n : Nat} {x : Sl α} {v : PV}
theorem IsArr.frz (h : IsArr n x v) : frzQ v S = none := by
 obtain ⟨⟨id, rfl⟩, _⟩ := h
 rfl
theorem IsArr.set (h : IsArr n x v) (i : Int) (y : α) : IsArr n (x.set i y) v := ⟨h.1, by rw [Sl.set_l, List.length_set]; exact h.2⟩
end Go.Pam
namespace Go.Pam
variable {env : Env} {fr : Fr} {σ : Nat → PV} {S : List SObj} {S0 : List SObj} {R : List Nat} {C : List (Nat × SObj)} {A : List (PV × Nat)} {W : List (PV × SObj)}
/-! Whether something older has been told of something newer plays no part in what is done -/
theorem evOps_any {ctx : Ctx} {call : Call'} {fr : Fr} : ∀ (ops : List POp) (σ : Nat → PV) (S : List SObj) (e : Bool) {σ' : Nat → PV} {S' : List SObj} {e' : Bool} (e1 : Bool), evOps ctx call fr ops σ S e = some (σ', S', e') →
  ∃ e2, evOps ctx call fr ops σ S e1 = some (σ', S', e2)
 | [], σ, S, e, σ', S', e', e1, h => by
  simp only [evOps, Option.some.injEq, Prod.mk.injEq] at h
  obtain ⟨rfl, rfl, _⟩ := h
  exact ⟨e1, rfl⟩
 | o :: rest, σ, S, e, σ', S', e', e1, h => by
  simp only [evOps] at h ⊢
  split at h
  case isFalse => cases h
  rename_i hd
  rw [if_pos hd]
  split at h
  ·cases h
  ·rename_i hw; try simp only [hw]
   exact evOps_any rest _ S e e1 h
  ·rename_i hw
   try simp only [hw]
   split at h
   ·cases h
   ·rename_i v S1 e3 hs
    try simp only [hs]
    exact evOps_any rest _ S1 _ (e1 || e3) h
theorem evChain_any {ctx : Ctx} {call : Call'} {fr : Fr} : ∀ (ops : List POp) (hist : List (List SObj)) (pend : List (TypeId × PV × PV)) (σ : Nat → PV) (S : List SObj) (e : Bool) {σ' : Nat → PV} {S' : List SObj} {e' : Bool} (e1 : Bool), evChain ctx call fr ops hist pend σ S e = some (σ', S', e') →
  ∃ e2, evChain ctx call fr ops hist pend σ S e1 = some (σ', S', e2)
 | [], hist, pend, σ, S, e, σ', S', e', e1, h => by
  simp only [evChain, Option.some.injEq, Prod.mk.injEq] at h
  obtain ⟨rfl, rfl, _⟩ := h
  exact ⟨e1, rfl⟩
 | o :: rest, hist, pend, σ, S, e, σ', S', e', e1, h => by
  simp only [evChain] at h ⊢
  split at h
  case isFalse => cases h
  rename_i hd
  rw [if_pos hd]
  split at h
  ·cases h
  ·rename_i hw; try simp only [hw]
   exact evChain_any rest _ _ _ S e e1 h
  ·rename_i hw
   try simp only [hw]
   split at h
   ·cases h
   ·rename_i v S1 e3 hs
    try simp only [hs]
    split at h
    ·rename_i hc
     rw [if_pos hc]
     split at h
     case isFalse => cases h
     rename_i hp
     rw [if_pos hp]
     exact evChain_any rest _ _ _ S1 _ (e1 || e3) h
    ·rename_i hc
     rw [if_neg hc]
     split at h
     case isFalse => cases h
     rename_i hp
     rw [if_pos hp]
     split at h
     ·rename_i hi
      rw [if_pos hi]
      exact evChain_any rest _ _ _ S e e1 h
     ·rename_i hi
      rw [if_neg hi]
      split at h
      ·rename_i t a hl
       try simp only [hl]
       split at h
       case isFalse => cases h
       rename_i hh
       rw [if_pos hh]
       exact evChain_any rest _ _ _ S e e1 h
      ·cases h
theorem rounds_any {body : St → Option (Ex × St)} (hb : ∀ (σ : Nat → PV) (S : List SObj) (e : Bool) {x : Ex} {σ' : Nat → PV} {S' : List SObj} {e' : Bool} (e1 : Bool), body (σ, S, e) = some (x, σ', S', e') → ∃ e2, body (σ, S, e1) = some (x, σ', S', e2)) :
  ∀ (k : Nat) (σ : Nat → PV) (S : List SObj) (e : Bool) {x : Ex} {σ' : Nat → PV} {S' : List SObj} {e' : Bool} (e1 : Bool), rounds body k (σ, S, e) = some (x, σ', S', e') → ∃ e2, rounds body k (σ, S, e1) = some (x, σ', S', e2)
 | 0, _, _, _, _, _, _, _, _, h => by cases h
 | k + 1, σ, S, e, x, σ', S', e', e1, h => by
  simp only [rounds] at h ⊢
  cases hq : body (σ, S, e) with
  | none => rw [hq] at h; cases h
  | some q =>
   rw [hq] at h
   obtain ⟨y, σ1, S1, e3⟩ := q
   obtain ⟨e4, h4⟩ := hb σ S e e1 hq
   rw [h4]
   cases y with
   | normal => exact rounds_any hb k σ1 S1 e3 e4 h
   | exit i => simp only [Option.some.injEq, Prod.mk.injEq] at h ⊢; obtain ⟨rfl, rfl, rfl, _⟩ := h; exact ⟨e4, rfl, rfl, rfl, rfl⟩
   | ret => simp only [Option.some.injEq, Prod.mk.injEq] at h ⊢; obtain ⟨rfl, rfl, rfl, _⟩ := h; exact ⟨e4, rfl, rfl, rfl, rfl⟩
theorem mround_any {ctx : Ctx} {call : Call'} {fr : Fr} {it t1 : Nat} {p2 : List POp} {c : Operand} {p6 p7 : List POp} {n : Nat} {seen : List Nat} {j : Nat} {σ : Nat → PV} {S : List SObj} {e : Bool} {σ' : Nat → PV} {S' : List SObj} {e' : Bool} (e1 : Bool)
  (h : mround ctx call fr it t1 p2 c p6 p7 n seen j (σ, S, e) = some (σ', S', e')) : ∃ e2, mround ctx call fr it t1 p2 c p6 p7 n seen j (σ, S, e1) = some (σ', S', e2) := by
 unfold mround at h ⊢
 have hv : mview it (σ, S, e1) = mview it (σ, S, e) := rfl
 rw [hv]
 split at h
 case h_2 => cases h
 split at h
 case isFalse => cases h
 rename_i hc
 split at h
 case h_2 => cases h
 split at h
 case h_2 => cases h
 rename_i s1 h1
 obtain ⟨σ1, S1, f1⟩ := s1
 split at h
 case h_2 => cases h
 rename_i ho
 split at h
 case h_2 => cases h
 rename_i s2 h2
 obtain ⟨σ2, S2, f2⟩ := s2
 obtain ⟨q1, h1'⟩ := evOps_any _ _ _ _ e1 h1
 obtain ⟨q2, h2'⟩ := evOps_any _ _ _ _ q1 h2
 obtain ⟨q3, h3'⟩ := evOps_any _ _ _ _ q2 h
 exact ⟨q3, by simp only [if_pos hc, h1', ho, h2', h3']⟩
theorem mfin_any {ctx : Ctx} {call : Call'} {fr : Fr} {it t1 : Nat} {p2 : List POp} {c : Operand} {n : Nat} {seen : List Nat} {σ : Nat → PV} {S : List SObj} {e : Bool} {σ' : Nat → PV} {S' : List SObj} {e' : Bool} (e1 : Bool)
  (h : mfin ctx call fr it t1 p2 c n seen (σ, S, e) = some (σ', S', e')) : ∃ e2, mfin ctx call fr it t1 p2 c n seen (σ, S, e1) = some (σ', S', e2) := by
 unfold mfin at h ⊢
 have hv : mview it (σ, S, e1) = mview it (σ, S, e) := rfl
 rw [hv]
 split at h
 case h_2 => cases h
 split at h
 case isFalse => cases h
 rename_i hc
 split at h
 case h_2 => cases h
 rename_i s1 h1
 obtain ⟨σ1, S1, f1⟩ := s1
 obtain ⟨q1, h1'⟩ := evOps_any _ _ _ _ e1 h1
 split at h
 case h_2 => cases h
 rename_i ho hi
 simp only [Option.some.injEq, Prod.mk.injEq] at h
 obtain ⟨rfl, rfl, _⟩ := h
 exact ⟨q1, by simp only [if_pos hc, h1', ho, hi]⟩
theorem allM_any {step : List Nat → Nat → St → Option St} {fin : List Nat → St → Option St} {keep : List Nat} {n : Nat}
  (hs : ∀ seen j (σ : Nat → PV) (S : List SObj) (e : Bool) {σ' : Nat → PV} {S' : List SObj} {e' : Bool} (e1 : Bool), step seen j (σ, S, e) = some (σ', S', e') → ∃ e2, step seen j (σ, S, e1) = some (σ', S', e2))
  (hf : ∀ seen (σ : Nat → PV) (S : List SObj) (e : Bool) {σ' : Nat → PV} {S' : List SObj} {e' : Bool} (e1 : Bool), fin seen (σ, S, e) = some (σ', S', e') → ∃ e2, fin seen (σ, S, e1) = some (σ', S', e2)) :
  ∀ (q : Nat) (seen : List Nat) (σ : Nat → PV) (S : List SObj) (e : Bool) {σ' : Nat → PV} {S' : List SObj} {e' : Bool} (e1 : Bool), allM step fin keep n q seen (σ, S, e) = some (σ', S', e') → ∃ e2, allM step fin keep n q seen (σ, S, e1) = some (σ', S', e2)
 | 0, _, _, _, _, _, _, _, _, h => by simp [allM] at h
 | q + 1, seen, σ, S, e, σ', S', e', e1, h => by
  have bnd : ∀ (j : Nat) {σ' : Nat → PV} {S' : List SObj} {e' : Bool}, (step seen j (σ, S, e)).bind (allM step fin keep n q (seen ++ [j])) = some (σ', S', e') → ∃ e2, (step seen j (σ, S, e1)).bind (allM step fin keep n q (seen ++ [j])) = some (σ', S', e2) := by
   intro j σ' S' e' hb
   obtain ⟨⟨σ1, S1, f1⟩, h1, h2⟩ := Option.bind_eq_some_iff.1 hb
   obtain ⟨q1, h1'⟩ := hs _ _ _ _ _ e1 h1
   obtain ⟨q2, h2'⟩ := allM_any hs hf q (seen ++ [j]) σ1 S1 f1 q1 h2
   exact ⟨q2, by rw [h1', Option.bind_some]; exact h2'⟩
  simp only [allM] at h ⊢
  split at h
  ·exact hf _ _ _ _ e1 h
  ·rename_i j0 js hj
   split at h
   ·cases h
   rename_i r0 hr0
   obtain ⟨σ0, S0, f0⟩ := r0
   split at h
   case isFalse => cases h
   rename_i hall
   simp only [Option.some.injEq, Prod.mk.injEq] at h
   obtain ⟨rfl, rfl, _⟩ := h
   obtain ⟨q0, hq0⟩ := bnd j0 hr0
   refine ⟨q0, ?_⟩
   simp only [hq0]
   rw [if_pos]
   rw [List.all_eq_true] at hall ⊢
   intro j hj
   have := hall j hj
   unfold agree at this ⊢
   split at this
   case h_2 => cases this
   rename_i r' hr'
   obtain ⟨σ2, S2, f2⟩ := r'
   obtain ⟨q2, hq2⟩ := bnd j hr'
   simp only [hq2]
   exact this
theorem codeW_any {ctx : Ctx} {call : Call'} {fr : Fr} : ∀ (c : PC) (σ : Nat → PV) (S : List SObj) (e : Bool) {x : Ex} {σ' : Nat → PV} {S' : List SObj} {e' : Bool} (e1 : Bool), codeW ctx call fr c (σ, S, e) = some (x, σ', S', e') →
  ∃ e2, codeW ctx call fr c (σ, S, e1) = some (x, σ', S', e2) := by
 intro c
 induction c with
 | skip => intro σ S e x σ' S' e' e1 h; simp only [codeW, Option.some.injEq, Prod.mk.injEq] at h ⊢; obtain ⟨rfl, rfl, rfl, _⟩ := h; exact ⟨e1, rfl, rfl, rfl, rfl⟩
 | region ops =>
  intro σ S e x σ' S' e' e1 h
  simp only [codeW] at h ⊢
  split at h
  ·rename_i s' hs
   obtain ⟨σ2, S2, e2⟩ := s'
   simp only [Option.some.injEq, Prod.mk.injEq] at h
   obtain ⟨rfl, rfl, rfl, _⟩ := h
   obtain ⟨e3, h3⟩ := evOps_any ops _ _ _ e1 hs
   exact ⟨e3, by rw [h3]⟩
  ·cases h
 | draw hd tl =>
  intro σ S e x σ' S' e' e1 h
  simp only [codeW] at h ⊢
  split at h
  ·rename_i s1 h1
   try simp only [h1]
   split at h
   ·rename_i s' hs
    obtain ⟨σ2, S2, e2⟩ := s'
    simp only [Option.some.injEq, Prod.mk.injEq] at h
    obtain ⟨rfl, rfl, rfl, _⟩ := h
    obtain ⟨e3, h3⟩ := evOps_any tl _ _ _ e1 hs
    exact ⟨e3, by rw [h3]⟩
   ·cases h
  ·cases h
 | drawC hd tl =>
  intro σ S e x σ' S' e' e1 h
  simp only [codeW] at h ⊢
  split at h
  ·rename_i s1 h1
   obtain ⟨σ1, S1, e4⟩ := s1
   obtain ⟨e5, h5⟩ := evChain_any hd _ _ _ _ _ e1 h1
   rw [h5]
   split at h
   ·rename_i s' hs
    obtain ⟨σ2, S2, e2⟩ := s'
    simp only [Option.some.injEq, Prod.mk.injEq] at h
    obtain ⟨rfl, rfl, rfl, _⟩ := h
    obtain ⟨e3, h3⟩ := evOps_any tl _ _ _ e5 hs
    exact ⟨e3, by simp only [h3]⟩
   ·cases h
  ·cases h
 | seq a b iha ihb =>
  intro σ S e x σ' S' e' e1 h
  simp only [codeW] at h ⊢
  cases ha : codeW ctx call fr a (σ, S, e) with
  | none => rw [ha] at h; cases h
  | some q =>
   obtain ⟨y, σ1, S1, e3⟩ := q
   rw [ha] at h
   obtain ⟨e4, h4⟩ := iha σ S e e1 ha
   rw [h4]
   cases y with
   | normal => exact ihb σ1 S1 e3 e4 h
   | exit i => simp only [Option.some.injEq, Prod.mk.injEq] at h ⊢; obtain ⟨rfl, rfl, rfl, _⟩ := h; exact ⟨e4, rfl, rfl, rfl, rfl⟩
   | ret => simp only [Option.some.injEq, Prod.mk.injEq] at h ⊢; obtain ⟨rfl, rfl, rfl, _⟩ := h; exact ⟨e4, rfl, rfl, rfl, rfl⟩
 | cond c a b iha ihb =>
  intro σ S e x σ' S' e' e1 h
  simp only [codeW] at h ⊢
  split at h
  ·rename_i t ht
   split at h
   ·rename_i htt; rw [if_pos htt]; exact iha σ S e e1 h
   ·rename_i htt; rw [if_neg htt]; exact ihb σ S e e1 h
  ·cases h
 | block id c ih =>
  intro σ S e x σ' S' e' e1 h
  simp only [codeW] at h ⊢
  cases ha : codeW ctx call fr c (σ, S, e) with
  | none => rw [ha] at h; cases h
  | some q =>
   obtain ⟨y, σ1, S1, e3⟩ := q
   rw [ha] at h
   obtain ⟨e4, h4⟩ := ih σ S e e1 ha
   rw [h4]
   cases y <;> (simp only [Option.some.injEq, Prod.mk.injEq] at h ⊢; obtain ⟨h1, rfl, rfl, _⟩ := h; exact ⟨e4, h1, rfl, rfl, rfl⟩)
 | loop c ih =>
  intro σ S e x σ' S' e' e1 h
  simp only [codeW] at h ⊢
  obtain ⟨k, hk⟩ := of_lim h
  obtain ⟨e2, h2⟩ := rounds_any (fun σ S e => ih σ S e) k σ S e e1 (hk k (Nat.le_refl _))
  exact ⟨e2, loopw_of h2⟩
 | exit id => intro σ S e x σ' S' e' e1 h; simp only [codeW, Option.some.injEq, Prod.mk.injEq] at h ⊢; obtain ⟨rfl, rfl, rfl, _⟩ := h; exact ⟨e1, rfl, rfl, rfl, rfl⟩
 | ret => intro σ S e x σ' S' e' e1 h; simp only [codeW, Option.some.injEq, Prod.mk.injEq] at h ⊢; obtain ⟨rfl, rfl, rfl, _⟩ := h; exact ⟨e1, rfl, rfl, rfl, rfl⟩
 | mloop it t1 p2 c keep p6 p7 =>
  intro σ S e x σ' S' e' e1 h
  simp only [codeW] at h ⊢
  have hv : mview it (σ, S, e1) = mview it (σ, S, e) := rfl
  rw [hv]
  split at h
  case h_2 => cases h
  obtain ⟨⟨σ0, S0, f0⟩, h0, h1⟩ := Option.map_eq_some_iff.1 h
  simp only [normM, Prod.mk.injEq] at h1
  obtain ⟨rfl, rfl, rfl, rfl⟩ := h1
  obtain ⟨e2, h2⟩ := allM_any (fun _ _ _ _ _ {_ _ _} e1 h => mround_any e1 h) (fun _ _ _ _ {_ _ _} e1 h => mfin_any e1 h) _ _ _ _ _ e1 h0
  exact ⟨true, by rw [h2]; rfl⟩
theorem WB.ofE {pf : PFn} {args : List PV} {K : PV → List SObj → Prop} {c : PC} {rs : List ResultVar} {n : Nat} {rw : Bool} (hpf : pf = ⟨n, rs, c, rw⟩)
  (h : WC env ⟨n, S.length⟩ c (fun i => args.getD i (.tup [])) S true (KB env ⟨n, rs, c, rw⟩ fun v S' _ => K v S')) : WB env pf args S (fun v S' _ => K v S') := by
 refine WB.of hpf ?_
 obtain ⟨x, σ', S', e', h1, h2⟩ := h
 obtain ⟨e2, h3⟩ := codeW_any c _ _ _ false h1
 refine ⟨x, σ', S', e2, h3, ?_⟩
 cases x with
 | normal => exact h2
 | exit i => exact h2
 | ret => exact h2
end Go.Pam
namespace Go.Pam
open Go.RowKit
variable {S : List SObj} {w w' : World} {g : G} {base : Nat} {bd : Nat → Nat}
def noBuf (S : List SObj) : Option (Nat × Nat) → List SObj
 | none => S
 | some (j, _) => S.set j .dead
theorem noBuf_len (S : List SObj) (b : Option (Nat × Nat)) : (noBuf S b).length = S.length := by
 cases b with
 | none => rfl
 | some p => obtain ⟨j, n⟩ := p; simp [noBuf]
theorem R.bldPut (h : R S w g 0 bd) {i : Nat} {T t : TypeId} {u : Bool} {b : Option (Nat × Nat)} (hs : S[i]? = some (.bld T u b)) (hb : ∀ j n, b = some (j, n) → ∃ bs t0, S[j]? = some (.buf bs t0))
  {q cap : Nat} {bs' : List UInt8} {cur' : Array Value} (hne : bs' ≠ [])
  (hoth : ∀ k, k < w.heap.size → k ≠ g.loc i → (∀ j n, b = some (j, n) → k ≠ g.loc j) → w'.heap[k]? = w.heap[k]?)
  (hbox : w'.heap[g.loc i]? = some (.cells #[.pointer (some ⟨g.loc i, 0, none⟩), .slice (some ⟨q, 0, none⟩) bs'.length cap] T (0, 0)))
  (hrow : w'.heap[q]? = some (.cells cur' t (0, 0))) (hcs : cur'.size = cap) (hcm : cap ≤ maxLen) (hn : bs'.length ≤ cap)
  (htk : cur'.toList.take bs'.length = bs'.map fun b => .int .u8 b.toNat) (hq : (∃ j n, b = some (j, n) ∧ q = g.loc j) ∨ w.heap.size ≤ q)
  (hsz : w.heap.size ≤ w'.heap.size) (hos : w'.os = w.os) (htp : w'.tape = w.tape) (hout : w'.output = w.output) :
  R (((noBuf S b).set i (.bld T true (some (S.length, bs'.length)))) ++ [.buf bs' t]) w' (g.new S.length q 0 cap 0 true) 0 bd ∧ Evo S.length g w (g.new S.length q 0 cap 0 true) w' := by
 have li := h.live i _ hs
 obtain ⟨i1, i2, i3, i4, i5⟩ := li
 have hilt := R.lt h hs
 have lj : ∀ j n, b = some (j, n) → j < S.length ∧ g.obj j = true ∧ ¬ g.fix (g.loc j) ∧ g.pp (g.loc j) = 0 ∧ g.loc j < w.heap.size ∧ j ≠ i := fun j n hj => by
  obtain ⟨bs, t0, hsj⟩ := hb j n hj
  have l := h.live j _ hsj
  have := l.loc_lt (by simp)
  obtain ⟨j1, j2, j3, _⟩ := l
  exact ⟨R.lt h hsj, j1, j2, j3, this, by rintro rfl; rw [hs] at hsj; cases hsj⟩
 have injI : ∀ k o, S[k]? = some o → o ≠ .dead → k ≠ i → g.loc k ≠ g.loc i := fun k o hk hd hne e => hne (h.inj k i o _ hk hs hd (by simp) e)
 have injJ : ∀ k o, S[k]? = some o → o ≠ .dead → ∀ j n, b = some (j, n) → k ≠ j → g.loc k ≠ g.loc j := fun k o hk hd j n hj hne e => by
  obtain ⟨bs, t0, hsj⟩ := hb j n hj
  exact hne (h.inj k j o _ hk hsj hd (by simp) e)
 have ppq : g.pp q = 0 := by
  rcases hq with ⟨j, n, hj, rfl⟩ | hq
  ·exact (lj j n hj).2.2.2.1
  ·exact h.hpp q hq
 have hnew : ∀ k, k ≠ S.length → (g.new S.length q 0 cap 0 true).loc k = g.loc k ∧ (g.new S.length q 0 cap 0 true).hw k = g.hw k ∧ (g.new S.length q 0 cap 0 true).tsz k = g.tsz k ∧ (g.new S.length q 0 cap 0 true).obj k = g.obj k := fun k hk => by
  simp [G.new, hk]
 have hpp' : ∀ k, (g.new S.length q 0 cap 0 true).pp k = g.pp k := fun k => by
  simp only [G.new]; split
  ·subst_vars; exact ppq.symm
  ·rfl
 have nL : (g.new S.length q 0 cap 0 true).loc S.length = q ∧ (g.new S.length q 0 cap 0 true).hw S.length = cap ∧ (g.new S.length q 0 cap 0 true).obj S.length = true := by simp [G.new]
 have evo : Evo S.length g w (g.new S.length q 0 cap 0 true) w' := by
  refine ⟨fun k => by rw [hpp' k]; exact Nat.le_refl _, fun k o ho => ?_, fun k hk => (hnew k (by omega)).2.2.2, fun k hk _ => (hnew k (by omega)).1, fun k hk => (hnew k (by omega)).2.2.1, fun k hk => by rw [(hnew k (by omega)).2.1]; exact Nat.le_refl _, fun k hk _ => (hnew k (by omega)).2.1, fun k cp hk hob _ ht => ?_, hsz, rfl, fun k hk => ?_, fun k _ => hpp' k, hos, htp, hout⟩
  ·have hk : k < w.heap.size := by
    rcases Nat.lt_or_ge k w.heap.size with hk | hk
    ·exact hk
    ·have := h.hpp k hk; omega
   exact cell?_of_heap (hoth k hk (by rintro rfl; omega) (fun j n hj e => by have := (lj j n hj).2.2.2.1; rw [← e] at this; omega)) o
  ·obtain ⟨x, hx⟩ : ∃ x, S[k]? = some x := ⟨_, List.getElem?_eq_getElem hk⟩
   have hd : x ≠ .dead := by rintro rfl; have := h.live k _ hx; simp [Live, hob] at this
   have hlt := ht.lt
   have n1 : k ≠ i := by rintro rfl; rw [hob] at i1; cases i1
   exact TipC.heap (g := g) (hnew k (by omega)).1 (hnew k (by omega)).2.1 (hnew k (by omega)).2.2.1 (hpp' _) (hoth _ hlt (injI k x hx hd n1) (fun j n hj => injJ k x hx hd j n hj (by rintro rfl; have := (lj k n hj).2.1; rw [hob] at this; cases this))) ht
  ·exact hoth k (h.hfix k hk) (by rintro rfl; exact i2 hk) (fun j n hj e => by have := (lj j n hj).2.2.1; rw [← e] at this; exact this hk)
 have hlen : (noBuf S b).length = S.length := noBuf_len S b
 have get : ∀ k o, (((noBuf S b).set i (.bld T true (some (S.length, bs'.length)))) ++ [.buf bs' t])[k]? = some o →
   (k = S.length ∧ o = .buf bs' t) ∨ (k = i ∧ o = .bld T true (some (S.length, bs'.length))) ∨ (k < S.length ∧ k ≠ i ∧ (∃ n, b = some (k, n)) ∧ o = .dead) ∨ (k < S.length ∧ k ≠ i ∧ (∀ j n, b = some (j, n) → k ≠ j) ∧ S[k]? = some o) := by
  intro k o hk
  rcases Nat.lt_or_ge k S.length with hlt | hge
  ·rw [List.getElem?_append_left (by simp [hlen]; omega)] at hk
   by_cases hki : k = i
   ·subst hki
    rw [List.getElem?_set_self (by omega)] at hk
    exact .inr (.inl ⟨rfl, (Option.some.inj hk).symm⟩)
   ·rw [List.getElem?_set_ne (Ne.symm hki)] at hk
    cases b with
    | none => exact .inr (.inr (.inr ⟨hlt, hki, (fun j n h => by cases h), hk⟩))
    | some p =>
     obtain ⟨j, n⟩ := p
     simp only [noBuf] at hk
     by_cases hkj : k = j
     ·subst hkj
      rw [List.getElem?_set_self hlt] at hk
      exact .inr (.inr (.inl ⟨hlt, hki, ⟨n, rfl⟩, (Option.some.inj hk).symm⟩))
     ·rw [List.getElem?_set_ne (Ne.symm hkj)] at hk
      exact .inr (.inr (.inr ⟨hlt, hki, (fun j' n' h => by injection h with h; injection h with h1 h2; subst h1; exact hkj), hk⟩))
  ·have : k = S.length := by
    have := (List.getElem?_eq_some_iff.1 hk).1
    simp [hlen] at this; omega
   subst this
   left
   rw [List.getElem?_append_right (by simp [hlen])] at hk
   simp [hlen] at hk
   exact ⟨rfl, hk.symm⟩
 have hlen' : (((noBuf S b).set i (.bld T true (some (S.length, bs'.length)))) ++ [SObj.buf bs' t]).length = S.length + 1 := by simp [hlen]
 refine ⟨⟨Nat.zero_le _, fun k hk => by omega, fun k hk => by have := h.hfix k hk; omega, fun k hk => by rw [hpp' k]; exact h.hpp k (by omega), ?_, ?_⟩, evo⟩
 ·intro k o hk
  have hlim : lim 0 bd (((noBuf S b).set i (.bld T true (some (S.length, bs'.length)))) ++ [SObj.buf bs' t]).length k = S.length + 1 := by rw [hlen']; rfl
  rw [hlim]
  rcases get k o hk with ⟨rfl, rfl⟩ | ⟨rfl, rfl⟩ | ⟨hlt, hki, ⟨n, hj⟩, rfl⟩ | ⟨hlt, hki, hkj, ho⟩
  ·refine ⟨nL.2.2, ?_, by rw [nL.1, hpp']; exact ppq, hne, cur', by rw [nL.1]; exact hrow, by rw [nL.2.1]; exact hcs, by rw [nL.2.1]; exact hcm, by rw [nL.2.1]; exact hn, htk⟩
   rw [nL.1]
   intro hf
   rcases hq with ⟨j, n, hj, rfl⟩ | hq
   ·exact (lj j n hj).2.2.1 hf
   ·have := h.hfix q hf; omega
  ·have hk' := hnew k (by omega)
   refine ⟨hk'.2.2.2.trans i1, by rw [hk'.1]; exact i2, by rw [hk'.1, hpp']; exact i3, fun j n hj => ?_, ?_⟩
   ·injection hj with hj; injection hj with hj1 hj2; subst hj1; exact ⟨by omega, nL.2.2⟩
   ·rw [hk'.1]; simp only [bufVal, nL.1, nL.2.1, if_true]; exact hbox
  ·exact (hnew k (by omega)).2.2.2.trans (lj k n hj).2.1
  ·have hk' := hnew k (by omega)
   have hl := h.live k o ho
   have hlim0 : lim 0 bd S.length k = S.length := rfl
   rw [hlim0] at hl
   refine (hl.evo evo hk'.2.2.2 hk'.1 hk'.2.1 hk'.2.2.1 (fun hd _ => ⟨hoth _ (hl.loc_lt hd) (injI k o ho hd hki) (fun j n hj => injJ k o ho hd j n hj (hkj j n hj)), hpp' _⟩)).mono (by omega)
 ·intro x y o p hx hy ho hp hloc
  have back : ∀ k o, (((noBuf S b).set i (.bld T true (some (S.length, bs'.length)))) ++ [.buf bs' t])[k]? = some o → o ≠ .dead → k ≠ S.length → k < S.length ∧ (∃ o', S[k]? = some o' ∧ o' ≠ .dead) ∧ (∀ j n, b = some (j, n) → k ≠ j) := by
   intro k o hk hd hne
   rcases get k o hk with ⟨rfl, rfl⟩ | ⟨rfl, rfl⟩ | ⟨_, _, _, rfl⟩ | ⟨hlt, hki, hkj, ho⟩
   ·exact absurd rfl hne
   ·exact ⟨hilt, ⟨_, hs, by simp⟩, fun j n hj => (lj j n hj).2.2.2.2.2.symm⟩
   ·exact absurd rfl hd
   ·exact ⟨hlt, ⟨o, ho, hd⟩, hkj⟩
  have apart : ∀ k o, (((noBuf S b).set i (.bld T true (some (S.length, bs'.length)))) ++ [.buf bs' t])[k]? = some o → o ≠ .dead → k ≠ S.length → g.loc k ≠ q := by
   intro k o hk hd hne e
   obtain ⟨hlt, ⟨o', ho', hd'⟩, hkj⟩ := back k o hk hd hne
   rcases hq with ⟨j, n, hj, rfl⟩ | hq
   ·exact injJ k o' ho' hd' j n hj (hkj j n hj) e
   ·have := (h.live k o' ho').loc_lt hd'; omega
  by_cases e1 : x = S.length <;> by_cases e2 : y = S.length
  ·omega
  ·subst e1
   rw [nL.1, (hnew y e2).1] at hloc
   exact absurd hloc.symm (apart y p hy hp e2)
  ·subst e2
   rw [nL.1, (hnew x e1).1] at hloc
   exact absurd hloc (apart x o hx ho e1)
  ·rw [(hnew x e1).1, (hnew y e2).1] at hloc
   obtain ⟨_, ⟨o', h1, h2⟩, _⟩ := back x o hx ho e1
   obtain ⟨_, ⟨p', h3, h4⟩, _⟩ := back y p hy hp e2
   exact h.inj x y o' p' h1 h3 h2 h4 hloc
end Go.Pam
namespace Go.Pam
open Go.RowKit
/-! What a method does to the memory -/
def bcells (bs : List UInt8) : List Value := bs.map fun b => .int .u8 b.toNat
def Wrote (T t : TypeId) (b : Nat) (v : Value) (bs : List UInt8) (w w' : World) : Prop :=
 ∃ v', w'.heap[b]? = some (.cells #[.pointer (some ⟨b, 0, none⟩), v'] T (0, 0)) ∧ w'.ownsRow 0 t 1 v' bs.length (bcells bs) ∧ (v'.ownBlock = v.ownBlock ∨ ∃ q, v'.ownBlock = some q ∧ w.heap.size ≤ q) ∧
  (bs = [] → v = .slice none 0 0 → v' = .slice none 0 0) ∧
  (∀ k, k < w.heap.size → k ≠ b → some k ≠ v.ownBlock → w'.heap[k]? = w.heap[k]?) ∧ w.heap.size ≤ w'.heap.size ∧ w'.os = w.os ∧ w'.tape = w.tape ∧ w'.output = w.output
def WrX (P : Program) (f : FuncId) (T t : TypeId) (args : List Value) (ys : List UInt8) (r : Value) : Prop :=
 ∀ (b : Nat) (p v : Value) (bs : List UInt8) (w : World), w.heap[b]? = some (.cells #[p, v] T (0, 0)) → (p = .pointer none ∨ p = .pointer (some ⟨b, 0, none⟩)) → w.ownsRow 0 t 1 v bs.length (bcells bs) → bs.length + ys.length ≤ 140737488355328 →
  Calls P f (.pointer (some ⟨b, 0, none⟩) :: args).toArray w fun e w' => e = .returned r ∧ Wrote T t b v (bs ++ ys) w w'
def StX (P : Program) (f : FuncId) (T t : TypeId) : Prop :=
 ∀ (b : Nat) (p v : Value) (bs : List UInt8) (w : World), w.heap[b]? = some (.cells #[p, v] T (0, 0)) → w.ownsRow 0 t 1 v bs.length (bcells bs) → (bs = [] → v = .slice none 0 0) →
  Calls P f #[.pointer (some ⟨b, 0, none⟩)] w fun e w' => e = .returned (.string ⟨bs.toArray⟩) ∧ (∀ k, some k ≠ v.ownBlock → w'.heap[k]? = w.heap[k]?) ∧ w'.heap.size = w.heap.size ∧ (∀ k o, w'.cell? ⟨k, o, none⟩ = w.cell? ⟨k, o, none⟩) ∧ w'.os = w.os ∧ w'.tape = w.tape ∧ w'.output = w.output
/-! The handlers -/
def wrCore (T t : TypeId) (i : Nat) (ys : List UInt8) (r : PV) (S : List SObj) : Option (PV × List SObj × Bool) :=
 match S[i]? with
 | some (.bld T' u b) =>
  if T' = T then match b with
   | none => if ys = [] then some (r, S.set i (.bld T true none), true) else if ys.length ≤ 140737488355328 then some (r, S.set i (.bld T true (some (S.length, ys.length))) ++ [.buf ys t], true) else none
   | some (j, n) => match S[j]? with
    | some (.buf bs t') => if t' = t ∧ n = bs.length ∧ bs.length + ys.length ≤ 140737488355328 then some (r, (S.set j .dead).set i (.bld T true (some (S.length, (bs ++ ys).length))) ++ [.buf (bs ++ ys) t], true) else none
    | _ => none
  else none
 | _ => none
def wbH (T t : TypeId) : List PV → List SObj → Option (PV × List SObj × Bool)
 | [.ptr i 0, .int .u8 c], S => if 0 ≤ c ∧ c < 256 then wrCore T t i [UInt8.ofNat c.toNat] .nili S else none
 | _, _ => none
def wsH (T t : TypeId) : List PV → List SObj → Option (PV × List SObj × Bool)
 | [.ptr i 0, .str s], S => wrCore T t i s (.tup [.int .i64 (Str.len s), .nili]) S
 | _, _ => none
def stH (T t : TypeId) : List PV → List SObj → Option (PV × List SObj × Bool)
 | [.ptr i 0], S => match S[i]? with
  | some (.bld T' u b) => if T' = T then match b with
   | none => some (.str [], S, false)
   | some (j, n) => match S[j]? with
    | some (.buf bs t') => if t' = t ∧ n = bs.length then some (.str bs, S.set j .dead, false) else none
    | _ => none
   else none
  | _ => none
 | _, _ => none
section
variable {P : Program} {S : List SObj} {w w' : World} {g : G} {base : Nat} {bd : Nat → Nat}
theorem R.bldRow (h : R S w g base bd) {t : TypeId} {b : Option (Nat × Nat)} {bs : List UInt8} (hb : (b = none ∧ bs = []) ∨ ∃ j, b = some (j, bs.length) ∧ S[j]? = some (.buf bs t)) :
  w.ownsRow 0 t 1 (bufVal g.loc g.hw b) bs.length (bcells bs) := by
 rcases hb with ⟨rfl, rfl⟩ | ⟨j, rfl, hj⟩
 ·exact ⟨by simp [bcells], .inl ⟨rfl, rfl⟩⟩
 ·obtain ⟨_, _, _, j4, cur, j5, j6, j7, j8, j9⟩ := h.live j _ hj
  exact ⟨by simp [bcells], .inr ⟨g.loc j, g.hw j, cur, rfl, Nat.zero_le _, j5, j8, j7, by omega, by rw [Nat.mul_one]; exact j9⟩⟩
theorem bufVal_own {g : G} {b : Option (Nat × Nat)} : (bufVal g.loc g.hw b).ownBlock = b.map fun p => g.loc p.1 := by
 cases b with
 | none => rfl
 | some p => rfl
theorem wrCore_good (h : R S w g base bd) {i : Nat} {T t : TypeId} {ys : List UInt8} {r : PV} {S' : List SObj} {e : Bool} {v : PV} (hw : wrCore T t i ys r S = some (v, S', e))
  {rv : Value} (hr : ∀ g' w' n, V g' w' n r rv) : ∃ u b bs, S[i]? = some (.bld T u b) ∧ ((b = none ∧ bs = []) ∨ ∃ j, b = some (j, bs.length) ∧ S[j]? = some (.buf bs t)) ∧ bs.length + ys.length ≤ 140737488355328 ∧
   ∀ w', Wrote T t (g.loc i) (bufVal g.loc g.hw b) (bs ++ ys) w w' → Good base bd S g w v S' e rv w' := by
 unfold wrCore at hw
 split at hw
 case h_2 => cases hw
 rename_i T' u b hs
 split at hw
 case isFalse => cases hw
 rename_i hT
 subst hT
 have main : ∀ (bs : List UInt8), ((b = none ∧ bs = []) ∨ ∃ j, b = some (j, bs.length) ∧ S[j]? = some (.buf bs t)) → bs ++ ys ≠ [] → ∀ w', Wrote T' t (g.loc i) (bufVal g.loc g.hw b) (bs ++ ys) w w' →
   Good base bd S g w r (((noBuf S b).set i (.bld T' true (some (S.length, (bs ++ ys).length)))) ++ [.buf (bs ++ ys) t]) true rv w' := by
  intro bs hb hne w' hW
  obtain ⟨v', b1, b2, b3, _, b5, b6, b7, b8, b9⟩ := hW
  obtain ⟨q, cap, cur', rfl, _, c2, c3, c4, c5, c6⟩ : ∃ q cap cur', v' = .slice (some ⟨q, 0, none⟩) (bs ++ ys).length cap ∧ 0 ≤ q ∧ w'.heap[q]? = some (.cells cur' t (0, 0)) ∧ (bs ++ ys).length ≤ cap ∧ cap ≤ maxLen ∧ cur'.size = cap * 1 ∧ cur'.toList.take ((bs ++ ys).length * 1) = bcells (bs ++ ys) := by
   rcases b2.2 with ⟨_, hz⟩ | ⟨q, cap, cur', hv, rest⟩
   ·exact absurd (List.eq_nil_of_length_eq_zero hz) hne
   ·exact ⟨q, cap, cur', hv, rest⟩
  obtain ⟨k1, k2⟩ := R.bldPut (T := T') (t := t) (u := u) (b := b) h.weaken hs (fun j n hj => by
   rcases hb with ⟨rfl, _⟩ | ⟨j', rfl, hj'⟩
   ·cases hj
   ·injection hj with hj; injection hj with hj1 hj2; subst hj1; exact ⟨_, _, hj'⟩) (q := q) (cap := cap) (bs' := bs ++ ys) (cur' := cur') hne
   (fun k hk h1 h2 => b5 k hk h1 (by
    rw [bufVal_own]
    intro he
    cases b with
    | none => cases he
    | some p => obtain ⟨j, n⟩ := p; simp only [Option.map_some, Option.some.injEq] at he; exact h2 j n rfl he)) b1 c2 (by omega) c4 c3 (by rw [Nat.mul_one] at c6; exact c6)
   (by
    rcases b3 with b3 | ⟨q', hq', hle⟩
    ·rw [bufVal_own] at b3
     cases b with
     | none => cases b3
     | some p => obtain ⟨j, n⟩ := p; simp only [Value.ownBlock, Option.map_some, Option.some.injEq] at b3; exact .inl ⟨j, n, rfl, b3⟩
    ·simp only [Value.ownBlock, Option.some.injEq] at hq'; subst hq'; exact .inr hle) b6 b7 b8 b9
  exact ⟨_, hr _ _ _, k1, k2, by simp [noBuf_len]⟩
 cases b with
 | none =>
  simp only at hw
  split at hw
  ·rename_i hy
   subst hy
   injection hw with hw; injection hw with h1 h2; injection h2 with h2 h3; subst h1 h2 h3
   refine ⟨u, none, [], hs, .inl ⟨rfl, rfl⟩, by simp, fun w' hW => ?_⟩
   obtain ⟨v', b1, b2, b3, b4, b5, b6, b7, b8, b9⟩ := hW
   have hv' := b4 rfl rfl
   subst hv'
   obtain ⟨i1, i2, i3, i4, i5⟩ := h.live i _ hs
   obtain ⟨k1, k2⟩ := R.touch (o' := .bld T' true none) h.weaken hs (by simp) i1 i2 i3 (fun k hk hne => b5 k hk hne (by simp [bufVal, Value.ownBlock])) b6 b7 b8 b9 (fun _ => ⟨i1, i2, i3, (fun j n hj => by cases hj), by simpa [bufVal] using b1⟩) S.length (Nat.le_refl _)
   exact ⟨g, hr _ _ _, k1, k2, by simp⟩
  ·rename_i hy
   split at hw
   case isFalse => cases hw
   rename_i hle
   injection hw with hw; injection hw with h1 h2; injection h2 with h2 h3; subst h1 h2 h3
   exact ⟨u, none, [], hs, .inl ⟨rfl, rfl⟩, by simpa using hle, main [] (.inl ⟨rfl, rfl⟩) (by simpa using hy)⟩
 | some p =>
  obtain ⟨j, n⟩ := p
  simp only at hw
  split at hw
  case h_2 => cases hw
  rename_i bs t' hj
  split at hw
  case isFalse => cases hw
  rename_i hc
  obtain ⟨c1, c2, c3⟩ := hc
  subst c1 c2
  injection hw with hw; injection hw with h1 h2; injection h2 with h2 h3; subst h1 h2 h3
  have hne : bs ≠ [] := (h.live j _ hj).2.2.2.1
  exact ⟨u, some (j, bs.length), bs, hs, .inr ⟨j, rfl, hj⟩, c3, main bs (.inr ⟨j, rfl, hj⟩) (by simp [hne])⟩
theorem arg1 {args : List PV} {cargs : Array Value} {x : PV} (ha : args = [x]) (hl : args.length = cargs.size) (hV : ∀ (i : Nat) (c : PV), args[i]? = some c → V g w S.length c (cargs.getD i undef)) : ∃ a, cargs = #[a] ∧ V g w S.length x a := by
 subst ha
 match cargs, hl with
 | ⟨[a]⟩, _ => exact ⟨a, rfl, hV 0 x rfl⟩
theorem arg2 {args : List PV} {cargs : Array Value} {x y : PV} (ha : args = [x, y]) (hl : args.length = cargs.size) (hV : ∀ (i : Nat) (c : PV), args[i]? = some c → V g w S.length c (cargs.getD i undef)) : ∃ a b, cargs = #[a, b] ∧ V g w S.length x a ∧ V g w S.length y b := by
 subst ha
 match cargs, hl with
 | ⟨[a, b]⟩, _ => exact ⟨a, b, rfl, hV 0 x rfl, hV 1 y rfl⟩
theorem inv_ptr {i off : Nat} {v : Value} (h : V g w S.length (.ptr i off) v) : v = .pointer (some ⟨g.loc i, off, none⟩) := by
 cases h; rfl
theorem ws_ok {f : FuncId} {T t : TypeId} (hfn : ∃ fn, P.funcs[f]? = some fn ∧ fn.body.isNone = false ∧ fn.name ≠ "runtime.NumGoroutine") (hX : ∀ s : ByteArray, WrX P f T t [.string s] s.data.toList (.tuple #[.int .i64 s.size, .nilIface]))
  (args : List PV) (S : List SObj) (v : PV) (S' : List SObj) (e : Bool) (h : wsH T t args S = some (v, S', e))
  (w : World) (g : G) (base : Nat) (bd : Nat → Nat) (cargs : Array Value) (hR : Go.Pam.R S w g base bd) (hl : args.length = cargs.size) (hV : ∀ (i : Nat) (c : PV), args[i]? = some c → V g w S.length c (cargs.getD i undef)) :
  (∃ fn, P.funcs[f]? = some fn ∧ fn.body.isNone = false ∧ fn.name ≠ "runtime.NumGoroutine") ∧ Calls P f cargs w (fun en w' => ∃ rv, en = .returned rv ∧ Good base bd S g w v S' e rv w') := by
 refine ⟨hfn, ?_⟩
 unfold wsH at h
 split at h
 case h_2 => cases h
 rename_i i s
 obtain ⟨a, b, rfl, va, vb⟩ := arg2 rfl hl hV
 have e1 := inv_ptr va
 subst e1
 obtain ⟨s', rfl, rfl⟩ : ∃ s' : ByteArray, b = .string s' ∧ s'.data.toList = s := by
  cases vb with
  | str s => exact ⟨s, rfl, rfl⟩
 have hlen : Str.len s'.data.toList = (s'.size : Int) := by
  show ((s'.data.toList.length : Nat) : Int) = ((s'.data.size : Nat) : Int)
  rw [Array.length_toList]
 obtain ⟨u, bo, bs, s1, s2, s3, s4⟩ := wrCore_good hR h (rv := .tuple #[.int .i64 s'.size, .nilIface]) (fun g' w' n => by
  rw [hlen]
  refine .tup _ _ rfl fun k c hk => ?_
  match k, hk with
  | 0, hk => simp at hk; subst hk; exact .int _ _
  | 1, hk => simp at hk; subst hk; exact .nili)
 obtain ⟨_, _, _, _, i5⟩ := hR.live i _ s1
 refine (hX s' (g.loc i) _ _ bs w i5 (by cases u <;> simp) (hR.bldRow s2) s3).mono ?_
 rintro en w' ⟨rfl, hW⟩
 exact ⟨_, rfl, s4 w' hW⟩
theorem st_ok {f : FuncId} {T t : TypeId} (hfn : ∃ fn, P.funcs[f]? = some fn ∧ fn.body.isNone = false ∧ fn.name ≠ "runtime.NumGoroutine") (hX : StX P f T t)
  (args : List PV) (S : List SObj) (v : PV) (S' : List SObj) (e : Bool) (h : stH T t args S = some (v, S', e))
  (w : World) (g : G) (base : Nat) (bd : Nat → Nat) (cargs : Array Value) (hR : Go.Pam.R S w g base bd) (hl : args.length = cargs.size) (hV : ∀ (i : Nat) (c : PV), args[i]? = some c → V g w S.length c (cargs.getD i undef)) :
  (∃ fn, P.funcs[f]? = some fn ∧ fn.body.isNone = false ∧ fn.name ≠ "runtime.NumGoroutine") ∧ Calls P f cargs w (fun en w' => ∃ rv, en = .returned rv ∧ Good base bd S g w v S' e rv w') := by
 refine ⟨hfn, ?_⟩
 unfold stH at h
 split at h
 case h_2 => cases h
 rename_i i
 obtain ⟨a, rfl, va⟩ := arg1 rfl hl hV
 have e1 := inv_ptr va
 subst e1
 split at h
 case h_2 => cases h
 rename_i T' u b hs
 split at h
 case isFalse => cases h
 rename_i hT
 subst hT
 obtain ⟨_, _, _, _, i5⟩ := hR.live i _ hs
 have strV : ∀ (bs : List UInt8) g' w' n, V g' w' n (.str bs) (.string ⟨bs.toArray⟩) := fun bs g' w' n => V.str ⟨bs.toArray⟩
 cases b with
 | none =>
  simp only [Option.some.injEq, Prod.mk.injEq] at h
  obtain ⟨rfl, rfl, rfl⟩ := h
  refine (hX (g.loc i) _ _ [] w i5 (hR.bldRow (.inl ⟨rfl, rfl⟩)) (fun _ => rfl)).mono ?_
  rintro en w' ⟨rfl, hk, hsz, hcell, ho, ht, hp⟩
  have hheap : w'.heap = w.heap := by
   apply Array.ext_getElem?
   intro k
   exact hk k (by simp [bufVal, Value.ownBlock])
  exact ⟨_, rfl, g, strV _ _ _ _, by simpa using hR.drawn hheap ho ht hp, Evo.drawn hheap ho ht hp, Nat.le_refl _⟩
 | some p =>
  obtain ⟨j, n⟩ := p
  simp only at h
  split at h
  case h_2 => cases h
  rename_i bs t' hj
  split at h
  case isFalse => cases h
  rename_i hc
  obtain ⟨c1, c2⟩ := hc
  subst c1 c2
  simp only [Option.some.injEq, Prod.mk.injEq] at h
  obtain ⟨rfl, rfl, rfl⟩ := h
  have lj := hR.live j _ hj
  obtain ⟨j1, j2, j3, j4, _⟩ := lj
  refine (hX (g.loc i) _ _ bs w i5 (hR.bldRow (.inr ⟨j, rfl, hj⟩)) (fun h => absurd h j4)).mono ?_
  rintro en w' ⟨rfl, hk, hsz, hcell, ho, ht, hp⟩
  obtain ⟨k1, k2⟩ := R.touch (o' := .dead) (w' := w') hR hj (by simp) j1 j2 j3 (fun k hk2 hne => hk k (by rw [bufVal_own]; simpa using hne)) (by omega) ho ht hp (fun _ => j1) S.length (Nat.le_refl _)
  exact ⟨_, rfl, g, strV _ _ _ _, by simpa using k1, k2, by simp⟩
end
end Go.Pam
namespace Go.Pam
variable {env : Env} {fr : Fr} {σ : Nat → PV} {S : List SObj} {S0 : List SObj} {R : List Nat} {C : List (Nat × SObj)} {A : List (PV × Nat)} {W : List (PV × SObj)}
def bdO (T : TypeId) : PV → SObj
 | .poison => .bld T false none
 | .rsl j n => .bld T true (some (j, n))
 | _ => .bld T true none
def IsBd (x : Str) (p : PV) : Prop := (p = .poison ∧ x = []) ∨ (p = .nils ∧ x = []) ∨ ∃ j, p = .rsl j x.length ∧ x ≠ []
def Str.put? (x ys : Str) : Option Str := if x.length + ys.length ≤ 140737488355328 then some (x ++ ys) else none
theorem isBd_new : IsBd [] .poison := .inl ⟨rfl, rfl⟩
theorem Hp.pushB (h : Hp S0 R S C A W) (T t : TypeId) : Hp S0 R (S ++ [.bld T false none]) (C ++ [(S.length, bdO T .poison)]) A ((.poison, .buf [] t) :: W) := by
 have hn := h.more (.bld T false none)
 have h2 : Hp S0 R (S ++ [.bld T false none]) (C ++ [(S.length, bdO T .poison)]) A W := by
  refine ⟨hn.len, hn.old, fun p hp => ?_, List.pairwise_append.2 ⟨h.nod, List.pairwise_singleton _ _, fun p hp q hq => ?_⟩, hn.app, hn.dis, hn.row, hn.rdis⟩
  ·rcases List.mem_append.1 hp with hp | hp
   ·exact hn.cel p hp
   ·rw [List.mem_singleton] at hp; subst hp; exact ⟨.inl h.len, by simp [bdO], rfl⟩
  ·rw [List.mem_singleton] at hq; subst hq
   have := lt_of_get (h.cel p hp).2.1; simp; omega
 exact h2.addNoW .poison (.buf [] t) rfl
theorem born_bd {T t : TypeId} {ti : TyI} {fs : Array Field} (H : Hp S0 R S C A W) (ht : env.ctx.ty T = some ti) (hu : ti.und = .struct fs) (hz : PV.same ti.zero (.agg [.nilp, .nils]) = true) :
  ∃ S' i, birthPV env.ctx σ S (.alloc T) = some (.ptr i 0, S') ∧ S0.length ≤ i ∧ Hp S0 R S' (C ++ [(i, bdO T .poison)]) A ((.poison, .buf [] t) :: W) :=
 ⟨_, _, by simp only [birthPV, ht, hu, hz, if_true], H.len, H.pushB T t⟩
theorem WO.bdNew {T : TypeId} (t : TypeId) {ti : TyI} {fs : Array Field} {d : Option Nat} {rest : List POp} {e : Bool} {K : KS} (hd : dstOk fr.ntmps d = true) (H : Hp S0 R S C A W) (ht : env.ctx.ty T = some ti) (hu : ti.und = .struct fs) (hz : PV.same ti.zero (.agg [.nilp, .nils]) = true)
  (h : ∀ i S', S0.length ≤ i → Hp S0 R S' (C ++ [(i, bdO T .poison)]) A ((.poison, .buf [] t) :: W) → WO env fr rest (upd σ d (.ptr i 0)) S' (e || false) K) : WO env fr (⟨d, .alloc T, none, true⟩ :: rest) σ S e K := by
 obtain ⟨S', i, h1, h2, h3⟩ := born_bd (env := env) (σ := σ) (t := t) H ht hu hz
 exact WO.step hd (bz rfl h1) (h i S' h2 h3)
theorem Hp.putW (h : Hp S0 R S C A W) (k : Nat) {v : PV} {o : SObj} (hk : W[k]? = some (v, o)) (n : Nat) (o' : SObj) (hkd : o'.kind = 1) : Hp S0 R (S ++ [o']) C A (W.set k (.rsl S.length n, o')) := by
 have hn := h.more o'
 refine ⟨hn.len, hn.old, hn.cel, hn.nod, hn.app, hn.dis, fun q hq id hid => ?_, pw_opt h.rdis (x := (PV.rsl S.length n, o')) fun m hm j q hne hj he => ?_⟩
 ·rcases mem_set_of hq with rfl | ⟨j, hne, hj⟩
  ·injection hid with hid; subst hid
   exact ⟨.inl h.len, by simp, hkd⟩
  ·exact hn.row q (List.mem_of_getElem? hj) id hid
 ·injection hm with hm; subst hm
  have := lt_of_get (h.row q (List.mem_of_getElem? hj) _ he).2.1
  omega
theorem Hp.dropW (h : Hp S0 R S C A W) (k : Nat) {v : PV} {o : SObj} {id : Nat} (hk : W[k]? = some (v, o)) (hv : rowAt v = some id) : Hp S0 R (S.set id .dead) C A (W.eraseIdx k) := by
 obtain ⟨hm, hg, hm1⟩ := h.row _ (List.mem_of_getElem? hk) id hv
 have hm1 : o.kind = 1 := hm1
 have hdis := rows_dis h hk hv
 refine ⟨by simpa using h.len, fun i hi hr => ?_, fun p hp => ⟨(h.cel p hp).1, ?_, (h.cel p hp).2.2⟩, h.nod, fun q hq => ⟨(h.app q hq).1.keep fun j hj => ?_, (h.app q hq).2⟩, h.dis, fun q hq j hj => ?_, h.rdis.sublist (List.eraseIdx_sublist ..)⟩
 ·have : id ≠ i := by
   rintro rfl
   rcases hm with h1 | h1
   ·omega
   ·exact hr h1
  rw [List.getElem?_set, if_neg this]; exact h.old i hi hr
 ·obtain ⟨_, hc, hck⟩ := h.cel p hp
  have : id ≠ p.1 := by rintro rfl; rw [hc] at hg; injection hg with hg; rw [hg] at hck; omega
  rw [List.getElem?_set, if_neg this]; exact hc
 ·obtain ⟨_, n, hn⟩ := (h.app q hq).1.lt hj
  have : id ≠ j := by rintro rfl; rw [hn] at hg; injection hg with hg; subst hg; cases hm1
  rw [List.getElem?_set, if_neg this]
 ·obtain ⟨i, hi⟩ := List.getElem?_of_mem hq
  rw [List.getElem?_eraseIdx] at hi
  have hk' : ∃ i', i' ≠ k ∧ W[i']? = some q := by
   split at hi
   ·exact ⟨i, by omega, hi⟩
   ·exact ⟨i + 1, by omega, hi⟩
  obtain ⟨i', hne, hi'⟩ := hk'
  obtain ⟨h1, h2, h3⟩ := h.row q (List.mem_of_getElem? hi') j hj
  refine ⟨h1, ?_, h3⟩
  have : id ≠ j := by rintro rfl; exact hdis i' q hne hi' hj
  rw [List.getElem?_set, if_neg this]; exact h2
theorem bd_wr (H : Hp S0 R S C A W) (c k : Nat) {i : Nat} {T t : TypeId} {p : PV} {x ys z : Str} (hC : C[c]? = some (i, bdO T p)) (hW : W[k]? = some (p, .buf x t)) (hp : IsBd x p) (hz : Str.put? x ys = some z) (r : PV) :
  ∃ p' S', wrCore T t i ys r S = some (r, S', true) ∧ IsBd z p' ∧ Hp S0 R S' (C.set c (i, bdO T p')) A (W.set k (p', .buf z t)) := by
 have hg := H.get c hC
 unfold Str.put? at hz
 split at hz
 case isFalse => cases hz
 rename_i hle
 injection hz with hz
 have first : (p = .poison ∨ p = .nils) → x = [] → ∃ p' S', wrCore T t i ys r S = some (r, S', true) ∧ IsBd z p' ∧ Hp S0 R S' (C.set c (i, bdO T p')) A (W.set k (p', .buf z t)) := by
  intro hpn hx
  subst hx
  simp only [List.nil_append] at hz
  subst hz
  have hr0 : rowAt p = none := by rcases hpn with rfl | rfl <;> rfl
  have hb : ∃ u, bdO T p = .bld T u none := by rcases hpn with rfl | rfl <;> exact ⟨_, rfl⟩
  obtain ⟨u, hb⟩ := hb
  rw [hb] at hg
  by_cases hy : ys = []
  ·subst hy
   refine ⟨.nils, S.set i (.bld T true none), by unfold wrCore; rw [hg]; simp, .inr (.inl ⟨rfl, rfl⟩), ?_⟩
   have h1 := H.setO c hC (bdO T .nils) rfl
   have h2 : Hp S0 R (S.set i (bdO T .nils)) (C.set c (i, bdO T .nils)) A (W.set k (.nils, .buf [] t)) := by
    refine { h1 with row := fun q hq id hid => ?_, rdis := pw_opt h1.rdis (x := (PV.nils, SObj.buf [] t)) fun n hn => by cases hn }
    rcases mem_set_of hq with rfl | ⟨j, hne, hj⟩
    ·cases hid
    ·exact h1.row q (List.mem_of_getElem? hj) id hid
   exact h2
  ·refine ⟨.rsl S.length ys.length, S.set i (.bld T true (some (S.length, ys.length))) ++ [.buf ys t], ?_, .inr (.inr ⟨_, rfl, hy⟩), ?_⟩
   ·unfold wrCore; rw [hg]; simp only [if_true, hy, if_false]; rw [if_pos (by simpa using hle)]
   ·have h1 := (H.setO c hC (bdO T (.rsl S.length ys.length)) rfl).putW k hW ys.length (.buf ys t) rfl
    rw [List.length_set] at h1
    exact h1
 rcases hp with ⟨rfl, hx⟩ | ⟨rfl, hx⟩ | ⟨j, rfl, hx⟩
 ·exact first (.inl rfl) hx
 ·exact first (.inr rfl) hx
 ·have hj := H.getW k hW rfl
  subst hz
  refine ⟨.rsl S.length (x ++ ys).length, (S.set j .dead).set i (.bld T true (some (S.length, (x ++ ys).length))) ++ [.buf (x ++ ys) t], ?_, .inr (.inr ⟨_, rfl, by simp [hx]⟩), ?_⟩
  ·unfold wrCore; rw [hg]; simp only [bdO, if_true, hj]; rw [if_pos ⟨trivial, trivial, hle⟩]
  ·have h1 := H.growW k hW rfl (x ++ ys).length (.buf (x ++ ys) t) rfl
   have h2 := h1.setO c hC (bdO T (.rsl S.length (x ++ ys).length)) rfl
   have hi : i < (S.set j .dead).length := by rw [List.length_set]; exact lt_of_get hg
   rw [List.set_append_left _ _ hi] at h2
   exact h2
theorem bd_st (H : Hp S0 R S C A W) (c k : Nat) {i : Nat} {T t : TypeId} {p : PV} {x : Str} (hC : C[c]? = some (i, bdO T p)) (hW : W[k]? = some (p, .buf x t)) (hp : IsBd x p) :
  ∃ S', stH T t [.ptr i 0] S = some (.str x, S', false) ∧ Hp S0 R S' (C.eraseIdx c) A (W.eraseIdx k) := by
 have hg := H.get c hC
 rcases hp with ⟨rfl, rfl⟩ | ⟨rfl, rfl⟩ | ⟨j, rfl, hx⟩
 ·exact ⟨S, by simp only [stH, hg, bdO, if_true], H.sub (List.eraseIdx_sublist ..) (List.Sublist.refl _) (List.eraseIdx_sublist ..)⟩
 ·exact ⟨S, by simp only [stH, hg, bdO, if_true], H.sub (List.eraseIdx_sublist ..) (List.Sublist.refl _) (List.eraseIdx_sublist ..)⟩
 ·have hj := H.getW k hW rfl
  refine ⟨S.set j .dead, by simp only [stH, hg, bdO, if_true, hj, and_self], (H.dropW k hW rfl).sub (List.eraseIdx_sublist ..) (List.Sublist.refl _) (List.Sublist.refl _)⟩
variable {hist : List (List SObj)} {pend : List (TypeId × PV × PV)} {rest : List POp} {d : Option Nat} {e : Bool} {K : KS}
theorem call_bdS (c k : Nat) {f : FuncId} {op : Operand} {args : Array Operand} {ts : Array TypeId} {i : Nat} {T t : TypeId} {p : PV} {x z s : Str}
  (hf : opd σ op = .fn (.func f) [] []) (ha : args.toList.map (opd σ) ++ [] = [.ptr i 0, .str s]) (hz : frzT (frzArgs env.ctx σ (.call ⟨.value op, args, ts⟩)) σ S = (σ, S)) (H : Hp S0 R S C A W)
  (hi : env.intr f = some (wsH T t)) (hC : C[c]? = some (i, bdO T p)) (hW : W[k]? = some (p, .buf x t)) (hp : IsBd x p) (hq : Str.put? x s = some z) :
  ∃ p' S', stF env fr σ S ⟨d, .call ⟨.value op, args, ts⟩, none, false⟩ = some (.tup [.int .i64 (Str.len s), .nili], S', true) ∧ IsBd z p' ∧ Hp S0 R S' (C.set c (i, bdO T p')) A (W.set k (p', .buf z t)) := by
 obtain ⟨p', S', h1, h2, h3⟩ := bd_wr H c k hC hW hp hq (.tup [.int .i64 (Str.len s), .nili])
 exact ⟨p', S', nz hz (stp_call hf ha (evw_intr hi (by simp only [wsH]; exact h1))), h2, h3⟩
theorem call_bdT (c k : Nat) {f : FuncId} {op : Operand} {args : Array Operand} {ts : Array TypeId} {i : Nat} {T t : TypeId} {p : PV} {x : Str}
  (hf : opd σ op = .fn (.func f) [] []) (ha : args.toList.map (opd σ) ++ [] = [.ptr i 0]) (hz : frzT (frzArgs env.ctx σ (.call ⟨.value op, args, ts⟩)) σ S = (σ, S)) (H : Hp S0 R S C A W)
  (hi : env.intr f = some (stH T t)) (hC : C[c]? = some (i, bdO T p)) (hW : W[k]? = some (p, .buf x t)) (hp : IsBd x p) :
  ∃ S', stF env fr σ S ⟨d, .call ⟨.value op, args, ts⟩, none, false⟩ = some (.str x, S', false) ∧ Hp S0 R S' (C.eraseIdx c) A (W.eraseIdx k) := by
 obtain ⟨S', h1, h2⟩ := bd_st H c k hC hW hp
 exact ⟨S', nz hz (stp_call hf ha (evw_intr hi h1)), h2⟩
theorem WO.bdW {op : Op} {v : PV} {P : PV → List SObj → Prop} (hd : dstOk fr.ntmps d = true) (hs : ∃ p' S', stF env fr σ S ⟨d, op, none, false⟩ = some (v, S', true) ∧ P p' S')
  (h : ∀ p' S', P p' S' → WO env fr rest (upd σ d v) S' (e || true) K) : WO env fr (⟨d, op, none, false⟩ :: rest) σ S e K := by
 obtain ⟨p', S', h1, h2⟩ := hs
 exact WO.step hd h1 (h p' S' h2)
theorem WK.bdW {op : Op} {v : PV} {P : PV → List SObj → Prop} (hd : dstOk fr.ntmps d = true) (hs : ∃ p' S', stF env fr σ S ⟨d, op, none, false⟩ = some (v, S', true) ∧ P p' S') (hc : chained ⟨d, op, none, false⟩ = true)
  (h : ∀ p' S', P p' S' → PendOk env.ctx pend S' ∧ WK env fr rest (S :: hist) pend (upd σ d v) S' (e || true) K) : WK env fr (⟨d, op, none, false⟩ :: rest) hist pend σ S e K := by
 obtain ⟨p', S', h1, h2⟩ := hs
 exact WK.turn hd h1 hc (h p' S' h2)
theorem WO.bdT {op : Op} {v : PV} {P : List SObj → Prop} (hd : dstOk fr.ntmps d = true) (hs : ∃ S', stF env fr σ S ⟨d, op, none, false⟩ = some (v, S', false) ∧ P S')
  (h : ∀ S', P S' → WO env fr rest (upd σ d v) S' (e || false) K) : WO env fr (⟨d, op, none, false⟩ :: rest) σ S e K := by
 obtain ⟨S', h1, h2⟩ := hs
 exact WO.step hd h1 (h S' h2)
theorem WK.bdT {op : Op} {v : PV} {P : List SObj → Prop} (hd : dstOk fr.ntmps d = true) (hs : ∃ S', stF env fr σ S ⟨d, op, none, false⟩ = some (v, S', false) ∧ P S') (hc : chained ⟨d, op, none, false⟩ = true)
  (h : ∀ S', P S' → PendOk env.ctx pend S' ∧ WK env fr rest (S :: hist) pend (upd σ d v) S' (e || false) K) : WK env fr (⟨d, op, none, false⟩ :: rest) hist pend σ S e K := by
 obtain ⟨S', h1, h2⟩ := hs
 exact WK.turn hd h1 hc (h S' h2)
end Go.Pam
namespace Go.Pam
variable {env : Env} {fr : Fr} {σ : Nat → PV} {S : List SObj} {S0 : List SObj} {R : List Nat} {C : List (Nat × SObj)} {A : List (PV × Nat)} {W : List (PV × SObj)}
end Go.Pam
