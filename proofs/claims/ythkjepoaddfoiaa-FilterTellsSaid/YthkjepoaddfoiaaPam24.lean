/- The abstract machine's runs as predicates: one rule for each form of code. -/
import Derived.Test.YthkjepoaddfoiaaPam23
namespace Go.Pam
set_option linter.unusedVariables false
set_option linter.unusedSimpArgs false

abbrev KX := Ex → (Nat → PV) → List SObj → Bool → Prop

def WO (env : Env) (fr : Fr) (ops : List POp) (σ : Nat → PV) (S : List SObj) (e : Bool) (K : KS) : Prop :=
  ∃ σ' S' e', evOps env.ctx (evw env) fr ops σ S e = some (σ', S', e') ∧ K σ' S' e'

def WH (env : Env) (fr : Fr) (ops : List POp) (σ : Nat → PV) (S : List SObj) (K : (Nat → PV) → Prop) : Prop :=
  ∃ σ', evHead env.ctx (evw env) fr S ops σ = some σ' ∧ K σ'

def WC (env : Env) (fr : Fr) (c : PC) (σ : Nat → PV) (S : List SObj) (e : Bool) (K : KX) : Prop :=
  ∃ x σ' S' e', codeW env.ctx (evw env) fr c (σ, S, e) = some (x, σ', S', e') ∧ K x σ' S' e'

noncomputable abbrev stF (env : Env) (fr : Fr) (σ : Nat → PV) (S : List SObj) (p : POp) := evStepF env.ctx (evw env) fr.base σ S p
noncomputable abbrev stp (env : Env) (fr : Fr) (σ : Nat → PV) (S : List SObj) (op : Op) := evStep env.ctx (evw env) fr.base σ S op

variable {env : Env} {fr : Fr}

theorem nz {σ : Nat → PV} {S : List SObj} {d : Option Nat} {op : Op} {g : Option (Nat × Bool)} {r : Option (PV × List SObj × Bool)} (hz : frzT (frzArgs env.ctx σ op) σ S = (σ, S)) (hs : stp env fr σ S op = r) : stF env fr σ S ⟨d, op, g, false⟩ = r := by
  show evStepF env.ctx (evw env) fr.base σ S ⟨d, op, g, false⟩ = r
  unfold evStepF
  simp only [hz, Bool.false_eq_true, if_false]
  exact hs

theorem yz {σ σ1 : Nat → PV} {S S1 : List SObj} {d : Option Nat} {op : Op} {g : Option (Nat × Bool)} {r : Option (PV × List SObj × Bool)} (hz : frzT (frzArgs env.ctx σ op) σ S = (σ1, S1)) (hs : stp env fr σ1 S1 op = r) : stF env fr σ S ⟨d, op, g, false⟩ = r := by
  show evStepF env.ctx (evw env) fr.base σ S ⟨d, op, g, false⟩ = r
  unfold evStepF
  simp only [hz, Bool.false_eq_true, if_false]
  exact hs

theorem bz {σ σ1 : Nat → PV} {S S1 S' : List SObj} {v : PV} {d : Option Nat} {op : Op} {g : Option (Nat × Bool)} (hz : frzT (frzArgs env.ctx σ op) σ S = (σ1, S1)) (hs : birthPV env.ctx σ1 S1 op = some (v, S')) : stF env fr σ S ⟨d, op, g, true⟩ = some (v, S', false) := by
  show evStepF env.ctx (evw env) fr.base σ S ⟨d, op, g, true⟩ = _
  unfold evStepF
  simp only [hz, if_true, hs, Option.map_some]

theorem fz_nil {σ : Nat → PV} {S : List SObj} : frzT [] σ S = (σ, S) := rfl
theorem fz_tmp {σ : Nat → PV} {S : List SObj} {t : Nat} {xs : List Operand} (h : frzQ (σ t) S = none) (hs : frzT xs σ S = (σ, S)) : frzT (.tmp t :: xs) σ S = (σ, S) := by
  simp only [frzT, h]; exact hs
theorem fz_oth {σ : Nat → PV} {S : List SObj} {x : Operand} {xs : List Operand} (h : ∀ t, x ≠ .tmp t) (hs : frzT xs σ S = (σ, S)) : frzT (x :: xs) σ S = (σ, S) := by
  cases x with
  | tmp t => exact absurd rfl (h t)
  | const v => exact hs
  | global i => exact hs
  | func f => exact hs
theorem fl_nil {S : List SObj} : frzL [] S = ([], S) := rfl
theorem fl_cons {S : List SObj} {v : PV} {vs : List PV} (h : frzQ v S = none) (hs : frzL vs S = (vs, S)) : frzL (v :: vs) S = (v :: vs, S) := by
  have h1 : frz1 v S = (v, S) := by unfold frz1; rw [h]; rfl
  simp only [frzL, h1, hs]

theorem WO.nil {σ S e} {K : KS} (h : K σ S e) : WO env fr [] σ S e K := ⟨_, _, _, rfl, h⟩

theorem WO.step {op : Op} {d : Option Nat} {wr : Bool} {rest : List POp} {σ S e S'} {v : PV} {e' : Bool} {K : KS} (hd : dstOk fr.ntmps d = true)
    (hs : stF env fr σ S ⟨d, op, none, wr⟩ = some (v, S', e')) (h : WO env fr rest (upd σ d v) S' (e || e') K) : WO env fr (⟨d, op, none, wr⟩ :: rest) σ S e K := by
  obtain ⟨σ1, S1, e1, h1, h2⟩ := h
  refine ⟨σ1, S1, e1, ?_, h2⟩
  unfold evOps
  simp only [hd, if_true, wantedPV]
  unfold stF at hs
  rw [hs]
  exact h1

theorem WO.go {op : Op} {d : Option Nat} {t : Nat} {want b : Bool} {wr : Bool} {rest : List POp} {σ S e S'} {v : PV} {e' : Bool} {K : KS} (hd : dstOk fr.ntmps d = true)
    (hb : σ t = .bool b) (hw : (b == want) = true)
    (hs : stF env fr σ S ⟨d, op, some (t, want), wr⟩ = some (v, S', e')) (h : WO env fr rest (upd σ d v) S' (e || e') K) : WO env fr (⟨d, op, some (t, want), wr⟩ :: rest) σ S e K := by
  obtain ⟨σ1, S1, e1, h1, h2⟩ := h
  refine ⟨σ1, S1, e1, ?_, h2⟩
  unfold evOps
  simp only [hd, if_true, wantedPV, hb, hw]
  unfold stF at hs
  rw [hs]
  exact h1

theorem WO.by {op : Op} {d : Option Nat} {t : Nat} {want b : Bool} {wr : Bool} {rest : List POp} {σ S e} {K : KS} (hd : dstOk fr.ntmps d = true)
    (hb : σ t = .bool b) (hw : (b == want) = false) (h : WO env fr rest (upd σ d (.tup [])) S e K) : WO env fr (⟨d, op, some (t, want), wr⟩ :: rest) σ S e K := by
  obtain ⟨σ1, S1, e1, h1, h2⟩ := h
  refine ⟨σ1, S1, e1, ?_, h2⟩
  unfold evOps
  simp only [hd, if_true, wantedPV, hb, hw]
  exact h1

theorem WO.by0 {op : Op} {d : Option Nat} {t : Nat} {want : Bool} {wr : Bool} {rest : List POp} {σ S e} {K : KS} (hd : dstOk fr.ntmps d = true)
    (hb : σ t = .tup []) (h : WO env fr rest (upd σ d (.tup [])) S e K) : WO env fr (⟨d, op, some (t, want), wr⟩ :: rest) σ S e K := by
  obtain ⟨σ1, S1, e1, h1, h2⟩ := h
  refine ⟨σ1, S1, e1, ?_, h2⟩
  unfold evOps
  simp only [hd, if_true, wantedPV, hb]
  exact h1

theorem evOps_append (ctx : Ctx) (call : Call') (fr : Fr) : ∀ (l r : List POp) (σ : Nat → PV) (S : List SObj) (e : Bool),
    evOps ctx call fr (l ++ r) σ S e = match evOps ctx call fr l σ S e with | some (σ', S', e') => evOps ctx call fr r σ' S' e' | none => none
  | [], r, σ, S, e => rfl
  | p :: l, r, σ, S, e => by
    rw [List.cons_append, evOps, evOps]
    split
    · split
      · rfl
      · exact evOps_append ctx call fr l r _ _ _
      · split
        · rfl
        · exact evOps_append ctx call fr l r _ _ _
    · rfl

theorem WO.split (n : Nat) {l : List POp} {σ S e} {K : KS} (P : KS) (h : WO env fr (l.take n) σ S e P) (h2 : ∀ σ' S' e', P σ' S' e' → WO env fr (l.drop n) σ' S' e' K) : WO env fr l σ S e K := by
  obtain ⟨σ1, S1, e1, h1, hp⟩ := h
  obtain ⟨σ2, S2, e2, h3, h4⟩ := h2 _ _ _ hp
  refine ⟨σ2, S2, e2, ?_, h4⟩
  rw [← List.take_append_drop n l, evOps_append, h1]
  exact h3

theorem WO.mono {l : List POp} {σ S e} {K K' : KS} (h : WO env fr l σ S e K) (hk : ∀ σ' S' e', K σ' S' e' → K' σ' S' e') : WO env fr l σ S e K' := by
  obtain ⟨σ1, S1, e1, h1, h2⟩ := h
  exact ⟨_, _, _, h1, hk _ _ _ h2⟩

theorem WH.nil {σ S} {K : (Nat → PV) → Prop} (h : K σ) : WH env fr [] σ S K := ⟨_, rfl, h⟩

theorem same_of {S' S : List SObj} {e' : Bool} (hS : S' = S) (he : e' = false) : (sameS S' S && !e') = true := by
  subst hS he; simp [sameS_refl]

theorem WH.step {op : Op} {d : Option Nat} {wr : Bool} {rest : List POp} {σ S S'} {v : PV} {e' : Bool} {K : (Nat → PV) → Prop} (hd : dstOk fr.ntmps d = true)
    (hs : stF env fr σ S ⟨d, op, none, wr⟩ = some (v, S', e')) (hS : S' = S) (he : e' = false) (h : WH env fr rest (upd σ d v) S K) : WH env fr (⟨d, op, none, wr⟩ :: rest) σ S K := by
  obtain ⟨σ1, h1, h2⟩ := h
  refine ⟨σ1, ?_, h2⟩
  unfold evHead
  simp only [hd, if_true, wantedPV]
  unfold stF at hs
  rw [hs]
  simp only [same_of hS he, if_true]
  exact h1

theorem WH.go {op : Op} {d : Option Nat} {t : Nat} {want b : Bool} {wr : Bool} {rest : List POp} {σ S S'} {v : PV} {e' : Bool} {K : (Nat → PV) → Prop} (hd : dstOk fr.ntmps d = true)
    (hb : σ t = .bool b) (hw : (b == want) = true)
    (hs : stF env fr σ S ⟨d, op, some (t, want), wr⟩ = some (v, S', e')) (hS : S' = S) (he : e' = false) (h : WH env fr rest (upd σ d v) S K) : WH env fr (⟨d, op, some (t, want), wr⟩ :: rest) σ S K := by
  obtain ⟨σ1, h1, h2⟩ := h
  refine ⟨σ1, ?_, h2⟩
  unfold evHead
  simp only [hd, if_true, wantedPV, hb, hw]
  unfold stF at hs
  rw [hs]
  simp only [same_of hS he, if_true]
  exact h1

theorem WH.by {op : Op} {d : Option Nat} {t : Nat} {want b : Bool} {wr : Bool} {rest : List POp} {σ S} {K : (Nat → PV) → Prop} (hd : dstOk fr.ntmps d = true)
    (hb : σ t = .bool b) (hw : (b == want) = false) (h : WH env fr rest (upd σ d (.tup [])) S K) : WH env fr (⟨d, op, some (t, want), wr⟩ :: rest) σ S K := by
  obtain ⟨σ1, h1, h2⟩ := h
  refine ⟨σ1, ?_, h2⟩
  unfold evHead
  simp only [hd, if_true, wantedPV, hb, hw]
  exact h1

theorem WH.by0 {op : Op} {d : Option Nat} {t : Nat} {want : Bool} {wr : Bool} {rest : List POp} {σ S} {K : (Nat → PV) → Prop} (hd : dstOk fr.ntmps d = true)
    (hb : σ t = .tup []) (h : WH env fr rest (upd σ d (.tup [])) S K) : WH env fr (⟨d, op, some (t, want), wr⟩ :: rest) σ S K := by
  obtain ⟨σ1, h1, h2⟩ := h
  refine ⟨σ1, ?_, h2⟩
  unfold evHead
  simp only [hd, if_true, wantedPV, hb]
  exact h1

theorem evHead_append (ctx : Ctx) (call : Call') (fr : Fr) (S : List SObj) : ∀ (l r : List POp) (σ : Nat → PV),
    evHead ctx call fr S (l ++ r) σ = match evHead ctx call fr S l σ with | some σ' => evHead ctx call fr S r σ' | none => none
  | [], r, σ => rfl
  | p :: l, r, σ => by
    rw [List.cons_append, evHead, evHead]
    split
    · split
      · rfl
      · exact evHead_append ctx call fr S l r _
      · split
        · rfl
        · split
          · exact evHead_append ctx call fr S l r _
          · rfl
    · rfl

theorem WH.split (n : Nat) {l : List POp} {σ S} {K : (Nat → PV) → Prop} (P : (Nat → PV) → Prop) (h : WH env fr (l.take n) σ S P) (h2 : ∀ σ', P σ' → WH env fr (l.drop n) σ' S K) : WH env fr l σ S K := by
  obtain ⟨σ1, h1, hp⟩ := h
  obtain ⟨σ2, h3, h4⟩ := h2 _ hp
  refine ⟨σ2, ?_, h4⟩
  rw [← List.take_append_drop n l, evHead_append, h1]
  exact h3

/-! Code -/
theorem WC.skip {σ S e} {K : KX} (h : K .normal σ S e) : WC env fr .skip σ S e K := ⟨_, _, _, _, rfl, h⟩
theorem WC.ret {σ S e} {K : KX} (h : K .ret σ S e) : WC env fr .ret σ S e K := ⟨_, _, _, _, rfl, h⟩
theorem WC.exit {i : Nat} {σ S e} {K : KX} (h : K (.exit i) σ S e) : WC env fr (.exit i) σ S e K := ⟨_, _, _, _, rfl, h⟩

theorem WC.region {ops : List POp} {σ S e} {K : KX} (h : WO env fr ops σ S e fun σ' S' e' => K .normal σ' S' e') : WC env fr (.region ops) σ S e K := by
  obtain ⟨σ1, S1, e1, h1, h2⟩ := h
  refine ⟨_, _, _, _, ?_, h2⟩
  simp only [codeW, h1]

theorem WC.draw {hd tl : List POp} {σ S e} {K : KX} (h : WH env fr hd σ S fun σ' => WO env fr tl σ' S e fun σ' S' e' => K .normal σ' S' e') : WC env fr (.draw hd tl) σ S e K := by
  obtain ⟨σ1, h1, σ2, S2, e2, h2, h3⟩ := h
  refine ⟨_, _, _, _, ?_, h3⟩
  simp only [codeW, h1, h2]

theorem WC.mono {c : PC} {σ S e} {K K' : KX} (h : WC env fr c σ S e K) (hk : ∀ x σ' S' e', K x σ' S' e' → K' x σ' S' e') : WC env fr c σ S e K' := by
  obtain ⟨x, σ1, S1, e1, h1, h2⟩ := h
  exact ⟨_, _, _, _, h1, hk _ _ _ _ h2⟩

def KX.seq (K : KX) (P : KS) : KX := fun x σ S e => match x with
  | .normal => P σ S e
  | .exit i => K (.exit i) σ S e
  | .ret => K .ret σ S e

theorem WC.seqJ {a b : PC} {σ S e} {K : KX} (P : KS) (h : WC env fr a σ S e (K.seq P)) (h2 : ∀ σ' S' e', P σ' S' e' → WC env fr b σ' S' e' K) : WC env fr (.seq a b) σ S e K := by
  obtain ⟨x, σ1, S1, e1, h1, hp⟩ := h
  cases x with
  | normal =>
    obtain ⟨y, σ2, S2, e2, h3, h4⟩ := h2 _ _ _ hp
    exact ⟨_, _, _, _, by simp only [codeW, h1]; exact h3, h4⟩
  | exit i => exact ⟨_, _, _, _, by simp only [codeW, h1], hp⟩
  | ret => exact ⟨_, _, _, _, by simp only [codeW, h1], hp⟩

theorem WC.seq {a b : PC} {σ S e} {K : KX} (h : WC env fr a σ S e (K.seq fun σ' S' e' => WC env fr b σ' S' e' K)) : WC env fr (.seq a b) σ S e K :=
  WC.seqJ _ h fun _ _ _ h => h

theorem WC.seqR {ops : List POp} {b : PC} {σ S e} {K : KX} (h : WO env fr ops σ S e fun σ' S' e' => WC env fr b σ' S' e' K) : WC env fr (.seq (.region ops) b) σ S e K :=
  WC.seq (WC.region h)

theorem WC.condT {c : Operand} {a b : PC} {t : Bool} {σ S e} {K : KX} (hc : opd σ c = .bool t) (ht : t = true) (h : WC env fr a σ S e K) : WC env fr (.cond c a b) σ S e K := by
  obtain ⟨x, σ1, S1, e1, h1, h2⟩ := h
  exact ⟨_, _, _, _, by simp only [codeW, hc, ht, if_true]; exact h1, h2⟩

theorem WC.condF {c : Operand} {a b : PC} {t : Bool} {σ S e} {K : KX} (hc : opd σ c = .bool t) (ht : t = false) (h : WC env fr b σ S e K) : WC env fr (.cond c a b) σ S e K := by
  obtain ⟨x, σ1, S1, e1, h1, h2⟩ := h
  exact ⟨_, _, _, _, by simp only [codeW, hc, ht, Bool.false_eq_true, if_false]; exact h1, h2⟩

def KX.block (K : KX) (id : Nat) : KX := fun x σ S e => match x with
  | .normal => K .normal σ S e
  | .exit i => if i = id then K .normal σ S e else K (.exit i) σ S e
  | .ret => K .ret σ S e

theorem WC.block {id : Nat} {c : PC} {σ S e} {K : KX} (h : WC env fr c σ S e (K.block id)) : WC env fr (.block id c) σ S e K := by
  obtain ⟨x, σ1, S1, e1, h1, h2⟩ := h
  cases x with
  | normal => exact ⟨_, _, _, _, by simp only [codeW, h1], h2⟩
  | exit i =>
    simp only [KX.block] at h2
    split at h2
    · rename_i hi; exact ⟨_, _, _, _, by simp only [codeW, h1, hi, if_true], h2⟩
    · rename_i hi; exact ⟨_, _, _, _, by simp only [codeW, h1, hi, if_false], h2⟩
  | ret => exact ⟨_, _, _, _, by simp only [codeW, h1], h2⟩

def KX.loop (K : KX) (P : KS) : KX := fun x σ S e => match x with
  | .normal => P σ S e
  | .exit i => K (.exit i) σ S e
  | .ret => K .ret σ S e

theorem WC.loop {c : PC} {σ S e} {K : KX} (h : WC env fr c σ S e (K.seq fun σ' S' e' => WC env fr (.loop c) σ' S' e' K)) : WC env fr (.loop c) σ S e K := by
  obtain ⟨x, σ1, S1, e1, h1, h2⟩ := h
  cases x with
  | normal =>
    obtain ⟨y, σ2, S2, e2, h3, h4⟩ := h2
    exact ⟨_, _, _, _, loopw_more h1 h3, h4⟩
  | exit i => exact ⟨_, _, _, _, loopw_exit h1, h2⟩
  | ret => exact ⟨_, _, _, _, loopw_ret h1, h2⟩

/-! Bodies -/
def WB (env : Env) (pf : PFn) (args : List PV) (S : List SObj) (K : KV) : Prop :=
  WC env ⟨pf.ntmps, S.length⟩ pf.body (fun i => args.getD i (.tup [])) S false fun x σ S' e => match x with
    | .normal => ∃ vs, resultsOf env.ctx S' σ pf.results = some vs ∧ if pf.raw then K (tupled vs) S' e else K (tupled (frzL vs S').1) (frzL vs S').2 e
    | .exit _ => False
    | .ret => ∃ vs, resultsOf env.ctx S' σ pf.results = some vs ∧ if pf.raw then K (tupled vs) S' e else K (tupled (frzL vs S').1) (frzL vs S').2 e

theorem WB.run {pf : PFn} {args : List PV} {S : List SObj} {K : KV} (h : WB env pf args S K) : ∃ v S' e, bodyW env.ctx (evw env) pf args S = some (v, S', e) ∧ K v S' e := by
  obtain ⟨x, σ1, S1, e1, h1, h2⟩ := h
  have h1' : codeW env.ctx (evw env) ⟨pf.ntmps, S.length⟩ pf.body (fun i => args.getD i (.tup []), S, false) = some (x, σ1, S1, e1) := h1
  cases x with
  | normal =>
    obtain ⟨vs, h3, h4⟩ := h2
    split at h4
    · rename_i hr; exact ⟨_, _, _, by unfold bodyW; simp only [h1', h3, hr, if_true], h4⟩
    · rename_i hr; exact ⟨_, _, _, by unfold bodyW; simp only [h1', h3, if_neg hr], h4⟩
  | exit i => exact h2.elim
  | ret =>
    obtain ⟨vs, h3, h4⟩ := h2
    split at h4
    · rename_i hr; exact ⟨_, _, _, by unfold bodyW; simp only [h1', h3, hr, if_true], h4⟩
    · rename_i hr; exact ⟨_, _, _, by unfold bodyW; simp only [h1', h3, if_neg hr], h4⟩

theorem evw_pureW {f : FuncId} {pf : PFn} (hi : env.intr f = none) (hf : env.fn f = some pf) {args bs : List PV} {S : List SObj} {v' : PV}
    (ha : args.map PV.strip = bs) (hl : bs.length ≤ pf.ntmps) (hc : cleanL bs = true) (hvc : v'.clean = true)
    (h : WB env pf bs [] fun v _ _ => v.strip = v') : evw env f args S = some (v', S, false) := by
  obtain ⟨w, S1, e1, hb, hv⟩ := h.run
  obtain ⟨k, hk⟩ := body_lim hb
  refine lim_of (k + 1) fun k' hk' => ?_
  obtain ⟨j, rfl⟩ : ∃ j, k' = j + 1 := ⟨k' - 1, by omega⟩
  have hl' : args.length ≤ pf.ntmps := by rw [← ha] at hl; simpa using hl
  simp only [ev, hi, hf, hl', if_true, ha, hc, hk j (by omega), hv, hvc]

theorem evw_storeW {f : FuncId} {pf : PFn} (hi : env.intr f = none) (hf : env.fn f = some pf) {args : List PV} {S : List SObj} {K : PV × List SObj × Bool → Prop}
    (hl : args.length ≤ pf.ntmps) (hc : cleanL (args.map PV.strip) = false)
    (h : WB env pf args S fun v S' e => K (leave S.length v S' e)) : ∃ r, evw env f args S = some r ∧ K r := by
  obtain ⟨w, S1, e1, hb, hv⟩ := h.run
  obtain ⟨k, hk⟩ := body_lim hb
  refine ⟨_, lim_of (k + 1) fun k' hk' => ?_, hv⟩
  obtain ⟨j, rfl⟩ : ∃ j, k' = j + 1 := ⟨k' - 1, by omega⟩
  simp only [ev, hi, hf, hl, if_true, hc, hk j (by omega), Bool.false_eq_true, if_false]
end Go.Pam
