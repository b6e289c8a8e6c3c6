/- The same: regions, bodies, calls. -/
import Derived.Test.YthcchjhieolflaaPam20
namespace Go.Pam
variable (o : Prim)

abbrev KS := (Nat → PV) → List SObj → Bool → Prop
abbrev KC := Ex → (Nat → PV) → List SObj → Bool → Prop
abbrev LoopP := Nat → (Nat → PV) → List SObj → Bool → KC → Prop

def opsK (ctx : Ctx) (cp : CallP) (fr : Fr) : List POp → (Nat → PV) → List SObj → Bool → KS → Prop
  | [], σ, S, e, K => K σ S e
  | p :: rest, σ, S, e, K =>
    if dstOk fr.ntmps p.dst then
      match p.guard with
      | none => stepK o ctx cp fr.base σ S p.op fun v S' e' => opsK ctx cp fr rest (upd σ p.dst v) S' (o.or e e') K
      | some (t, want) =>
        match σ t with
        | .bool b =>
          match want with
          | true =>
            if b then stepK o ctx cp fr.base σ S p.op fun v S' e' => opsK ctx cp fr rest (upd σ p.dst v) S' (o.or e e') K
            else opsK ctx cp fr rest (upd σ p.dst (.tup [])) S e K
          | false =>
            if b then opsK ctx cp fr rest (upd σ p.dst (.tup [])) S e K
            else stepK o ctx cp fr.base σ S p.op fun v S' e' => opsK ctx cp fr rest (upd σ p.dst v) S' (o.or e e') K
        | .tup [] => opsK ctx cp fr rest (upd σ p.dst (.tup [])) S e K
        | _ => False
    else False

theorem opsK_ok (ctx : Ctx) {call : Call'} {cp : CallP} (hc : CpOk call cp) (fr : Fr) : ∀ (l : List POp) (σ : Nat → PV) (S : List SObj) (e : Bool) (K : KS), opsK o ctx cp fr l σ S e K →
    ∃ σ' S' e', opsO o ctx call fr l σ S e = some (σ', S', e') ∧ K σ' S' e'
  | [], σ, S, e, K, h => ⟨_, _, _, rfl, h⟩
  | p :: rest, σ, S, e, K, h => by
    obtain ⟨dst, op, guard⟩ := p
    simp only [opsK] at h
    simp only [opsO]
    split at h
    case isFalse => exact h.elim
    rename_i hd
    simp only [hd, if_true]
    cases guard with
    | none =>
      simp only at h ⊢
      obtain ⟨v, S', e', h1, h2⟩ := stepK_ok o ctx hc _ _ _ _ _ h
      rw [h1]
      exact opsK_ok ctx hc fr rest _ _ _ _ h2
    | some q =>
      obtain ⟨t, want⟩ := q
      simp only at h ⊢
      split at h
      · rename_i b hb
        simp only [hb]
        split at h
        · cases b with
          | true =>
            simp only [if_true] at h ⊢
            obtain ⟨v, S', e', h1, h2⟩ := stepK_ok o ctx hc _ _ _ _ _ h
            rw [h1]
            exact opsK_ok ctx hc fr rest _ _ _ _ h2
          | false => exact opsK_ok ctx hc fr rest _ _ _ _ h
        · cases b with
          | true => exact opsK_ok ctx hc fr rest _ _ _ _ h
          | false =>
            simp only [Bool.false_eq_true, if_false] at h
            obtain ⟨v, S', e', h1, h2⟩ := stepK_ok o ctx hc _ _ _ _ _ h
            simp only [Bool.false_eq_true, if_false, Bool.not_false, if_true]
            rw [h1]
            exact opsK_ok ctx hc fr rest _ _ _ _ h2
      · rename_i hb
        simp only [hb]
        exact opsK_ok ctx hc fr rest _ _ _ _ h
      · exact h.elim

/-- Operations that never touch the store. -/
def quiet : Op → Bool
  | .move _ => true
  | .assign _ => true
  | .build _ _ => true
  | .buildSlice _ _ _ => true
  | .load _ _ => true
  | .nilCheck _ => true
  | .binOp _ _ _ _ _ => true
  | .unOp _ _ _ => true
  | .makeInterface _ _ => true
  | .makeFunc _ _ _ => true
  | .slice _ _ _ _ _ => true
  | .fieldAddr _ _ _ => true
  | .field _ _ _ => true
  | .indexAddr _ _ _ => true
  | .index _ _ _ => true
  | .typeAssert _ _ _ _ => true
  | .extract _ _ => true
  | .call ⟨.builtin .len, _, _⟩ => true
  | .call ⟨.builtin .min, _, _⟩ => true
  | .call ⟨.builtin .max, _, _⟩ => true
  | _ => false

theorem map_same {α : Type} {x : Option α} {f : α → PV} {S S' : List SObj} {e : Bool} {v : PV} (h : (x.map fun a => (f a, S, false)) = some (v, S', e)) : S' = S ∧ e = false := by
  cases x with
  | none => cases h
  | some a => injection h with h; injection h with _ h; injection h with h1 h2; exact ⟨h1.symm, h2.symm⟩

theorem quiet_ok (ctx : Ctx) {call : Call'} (base : Nat) (σ : Nat → PV) (S : List SObj) (op : Op) (hq : quiet op = true) (v : PV) (S' : List SObj) (e : Bool) (h : stepO o ctx call base σ S op = some (v, S', e)) : S' = S ∧ e = false := by
  unfold quiet at hq
  split at hq <;> simp only [stepO, callO] at h
  all_goals first
    | (injection h with h; injection h with _ h; injection h with h1 h2; exact ⟨h1.symm, h2.symm⟩)
    | exact map_same h
    | (cases hq; done)
    | (split at h <;> first
        | (injection h with h; injection h with _ h; injection h with h1 h2; exact ⟨h1.symm, h2.symm⟩)
        | exact map_same h
        | (cases h; done)
        | (split at h <;> first
          | (injection h with h; injection h with _ h; injection h with h1 h2; exact ⟨h1.symm, h2.symm⟩)
          | exact map_same h
          | (cases h; done)))

mutual
theorem PV.same_refl : ∀ (x : PV), PV.same x x = true
  | .poison => rfl
  | .bool b => by simp [PV.same]
  | .int k n => by simp [PV.same]
  | .str s => by simp [PV.same]
  | .nilp => rfl
  | .ptr a b => by simp [PV.same]
  | .iptr a b => by simp [PV.same, sameL_refl a]
  | .nils => rfl
  | .lst a t => by simp [PV.same, sameL_refl a]
  | .hsl a b c => by simp [PV.same]
  | .nilm => rfl
  | .map a => by simp [PV.same]
  | .nilf => rfl
  | .fn f a b => by simp [PV.same, sameL_refl a, sameL_refl b]
  | .nili => rfl
  | .ifc t v => by simp [PV.same, PV.same_refl v]
  | .agg a => by simp [PV.same, sameL_refl a]
  | .tup a => by simp [PV.same, sameL_refl a]
theorem sameL_refl : ∀ (x : List PV), sameL x x = true
  | [] => rfl
  | x :: xs => by simp [sameL, PV.same_refl x, sameL_refl xs]
end

theorem sameKV_refl : ∀ (x : List (PV × PV)), sameKV x x = true
  | [] => rfl
  | x :: xs => by simp [sameKV, PV.same_refl, sameKV_refl xs]

theorem sameS_refl : ∀ (S : List SObj), sameS S S = true
  | [] => rfl
  | x :: xs => by
    simp only [sameS, sameS_refl xs, Bool.and_true]
    cases x <;> simp [SObj.same, sameL_refl, sameKV_refl]

theorem real_same (S : List SObj) : real.same S S false = true := by simp [real, sameS_refl]

def headK (ctx : Ctx) (cp : CallP) (fr : Fr) (S : List SObj) : List POp → (Nat → PV) → ((Nat → PV) → Prop) → Prop
  | [], σ, K => K σ
  | p :: rest, σ, K =>
    if dstOk fr.ntmps p.dst then
      match p.guard with
      | none => stepK o ctx cp fr.base σ S p.op fun v S' e' => if quiet p.op then headK ctx cp fr S rest (upd σ p.dst v) K else o.same S' S e' = true ∧ headK ctx cp fr S rest (upd σ p.dst v) K
      | some (t, want) =>
        match σ t with
        | .bool b =>
          match want with
          | true =>
            if b then stepK o ctx cp fr.base σ S p.op fun v S' e' => if quiet p.op then headK ctx cp fr S rest (upd σ p.dst v) K else o.same S' S e' = true ∧ headK ctx cp fr S rest (upd σ p.dst v) K
            else headK ctx cp fr S rest (upd σ p.dst (.tup [])) K
          | false =>
            if b then headK ctx cp fr S rest (upd σ p.dst (.tup [])) K
            else stepK o ctx cp fr.base σ S p.op fun v S' e' => if quiet p.op then headK ctx cp fr S rest (upd σ p.dst v) K else o.same S' S e' = true ∧ headK ctx cp fr S rest (upd σ p.dst v) K
        | .tup [] => headK ctx cp fr S rest (upd σ p.dst (.tup [])) K
        | _ => False
    else False

theorem headK_ok (hsame : ∀ S, o.same S S false = true) (ctx : Ctx) {call : Call'} {cp : CallP} (hc : CpOk call cp) (fr : Fr) (S : List SObj) : ∀ (l : List POp) (σ : Nat → PV) (K : (Nat → PV) → Prop), headK o ctx cp fr S l σ K →
    ∃ σ', headO o ctx call fr S l σ = some σ' ∧ K σ'
  | [], σ, K, h => ⟨_, rfl, h⟩
  | p :: rest, σ, K, h => by
    obtain ⟨dst, op, guard⟩ := p
    simp only [headK] at h
    simp only [headO]
    split at h
    case isFalse => exact h.elim
    rename_i hd
    simp only [hd, if_true]
    have run : (stepK o ctx cp fr.base σ S op fun v S' e' => if quiet op then headK o ctx cp fr S rest (upd σ dst v) K else o.same S' S e' = true ∧ headK o ctx cp fr S rest (upd σ dst v) K) →
        ∃ σ', (match stepO o ctx call fr.base σ S op with
          | none => none
          | some (v, S', e') => if o.same S' S e' then headO o ctx call fr S rest (upd σ dst v) else none) = some σ' ∧ K σ' := by
      intro h
      obtain ⟨v, S', e', h1, h2⟩ := stepK_ok o ctx hc _ _ _ _ _ h
      rw [h1]
      split at h2
      · rename_i hq
        obtain ⟨rfl, rfl⟩ := quiet_ok o ctx _ _ _ _ hq _ _ _ h1
        simp only [hsame, if_true]
        exact headK_ok hsame ctx hc fr _ rest _ _ h2
      · simp only [h2.1, if_true]
        exact headK_ok hsame ctx hc fr _ rest _ _ h2.2
    cases guard with
    | none => exact run h
    | some q =>
      obtain ⟨t, want⟩ := q
      simp only at h ⊢
      split at h
      · rename_i b hb
        simp only [hb]
        split at h
        · cases b with
          | true => exact run h
          | false => exact headK_ok hsame ctx hc fr _ rest _ _ h
        · cases b with
          | true => exact headK_ok hsame ctx hc fr _ rest _ _ h
          | false => exact run h
      · rename_i hb
        simp only [hb]
        exact headK_ok hsame ctx hc fr _ rest _ _ h
      · exact h.elim

def codeK (LP : LoopP) (ctx : Ctx) (cp : CallP) (fr : Fr) : PC → (Nat → PV) → List SObj → Bool → KC → Prop
  | .skip, σ, S, e, K => K .normal σ S e
  | .region ops, σ, S, e, K => opsK o ctx cp fr ops σ S e fun σ' S' e' => K .normal σ' S' e'
  | .draw hd tl, σ, S, e, K => headK o ctx cp fr S hd σ fun σ' => opsK o ctx cp fr tl σ' S e fun σ' S' e' => K .normal σ' S' e'
  | .drawC _ _, _, _, _, _ => False
  | .seq a b, σ, S, e, K => codeK LP ctx cp fr a σ S e fun x σ' S' e' => match x with
    | .normal => codeK LP ctx cp fr b σ' S' e' K
    | .exit i => K (.exit i) σ' S' e'
    | .ret => K .ret σ' S' e'
  | .cond c a b, σ, S, e, K =>
    match opd σ c with
    | .bool t => if t then codeK LP ctx cp fr a σ S e K else codeK LP ctx cp fr b σ S e K
    | _ => False
  | .block id (.loop _), σ, S, e, K => LP id σ S e fun x σ' S' e' => match x with
    | .normal => K .normal σ' S' e'
    | .exit i => if i = id then K .normal σ' S' e' else K (.exit i) σ' S' e'
    | .ret => K .ret σ' S' e'
  | .block id c, σ, S, e, K => codeK LP ctx cp fr c σ S e fun x σ' S' e' => match x with
    | .normal => K .normal σ' S' e'
    | .exit i => if i = id then K .normal σ' S' e' else K (.exit i) σ' S' e'
    | .ret => K .ret σ' S' e'
  | .loop _, _, _, _, _ => False
  | .exit id, σ, S, e, K => K (.exit id) σ S e
  | .ret, σ, S, e, K => K .ret σ S e

/-- The loops' predicate tells of the loops. -/
def LoopOk (o : Prim) (LP : LoopP) (ctx : Ctx) (call : Call') (fr : Fr) (l : List (Nat × PC)) : Prop :=
  ∀ p ∈ l, ∀ σ S e K, LP p.1 σ S e K → ∃ x σ' S' e', o.loop (codeO o ctx call fr p.2) (σ, S, e) = some (x, σ', S', e') ∧ K x σ' S' e'

theorem codeK_ok (hsame : ∀ S, o.same S S false = true) (ctx : Ctx) {call : Call'} {cp : CallP} (hc : CpOk call cp) (fr : Fr) {LP : LoopP} : ∀ (c : PC), LoopOk o LP ctx call fr (loopsOf c) → ∀ (σ : Nat → PV) (S : List SObj) (e : Bool) (K : KC), codeK o LP ctx cp fr c σ S e K →
    ∃ x σ' S' e', codeO o ctx call fr c (σ, S, e) = some (x, σ', S', e') ∧ K x σ' S' e'
  | .skip, _, σ, S, e, K, h => ⟨_, _, _, _, rfl, h⟩
  | .region ops, _, σ, S, e, K, h => by
    obtain ⟨σ', S', e', h1, h2⟩ := opsK_ok o ctx hc fr _ _ _ _ _ h
    exact ⟨_, _, _, _, by simp only [codeO, h1], h2⟩
  | .draw hd tl, _, σ, S, e, K, h => by
    obtain ⟨σ1, h1, h2⟩ := headK_ok o hsame ctx hc fr _ _ _ _ h
    obtain ⟨σ', S', e', h3, h4⟩ := opsK_ok o ctx hc fr _ _ _ _ _ h2
    exact ⟨_, _, _, _, by simp only [codeO, h1, h3], h4⟩
  | .drawC _ _, _, σ, S, e, K, h => h.elim
  | .seq a b, hl, σ, S, e, K, h => by
    obtain ⟨x, σ', S', e', h1, h2⟩ := codeK_ok hsame ctx hc fr a (fun p hp => hl p (by simp [loopsOf, hp])) _ _ _ _ h
    cases x with
    | normal =>
      obtain ⟨x, σ2, S2, e2, h3, h4⟩ := codeK_ok hsame ctx hc fr b (fun p hp => hl p (by simp [loopsOf, hp])) _ _ _ _ h2
      exact ⟨_, _, _, _, by simp only [codeO, h1]; exact h3, h4⟩
    | exit i => exact ⟨_, _, _, _, by simp only [codeO, h1], h2⟩
    | ret => exact ⟨_, _, _, _, by simp only [codeO, h1], h2⟩
  | .cond c a b, hl, σ, S, e, K, h => by
    simp only [codeK] at h
    simp only [codeO]
    split at h
    · rename_i t ht
      rw [ht]
      cases t with
      | true => exact codeK_ok hsame ctx hc fr a (fun p hp => hl p (by simp [loopsOf, hp])) _ _ _ _ h
      | false => exact codeK_ok hsame ctx hc fr b (fun p hp => hl p (by simp [loopsOf, hp])) _ _ _ _ h
    · exact h.elim
  | .block id (.loop c), hl, σ, S, e, K, h => by
    simp only [codeK] at h
    obtain ⟨x, σ', S', e', h1, h2⟩ := hl (id, c) (by simp [loopsOf]) _ _ _ _ h
    simp only [codeO]
    rw [h1]
    cases x with
    | normal => exact ⟨_, _, _, _, rfl, h2⟩
    | exit i =>
      simp only at h2
      split at h2
      · rename_i hi; exact ⟨_, _, _, _, by simp only [hi, if_true], h2⟩
      · rename_i hi; exact ⟨_, _, _, _, by simp only [hi, if_false], h2⟩
    | ret => exact ⟨_, _, _, _, rfl, h2⟩
  | .block id .skip, hl, σ, S, e, K, h => ⟨_, _, _, _, rfl, h⟩
  | .block id .ret, hl, σ, S, e, K, h => ⟨_, _, _, _, rfl, h⟩
  | .block id (.exit i), hl, σ, S, e, K, h => by
    simp only [codeK] at h
    split at h
    · rename_i hi; exact ⟨_, _, _, _, by simp only [codeO, hi, if_true], h⟩
    · rename_i hi; exact ⟨_, _, _, _, by simp only [codeO, hi, if_false], h⟩
  | .block id (.region a), hl, σ, S, e, K, h => blk hsame ctx hc fr id (.region a) (fun _ _ => rfl) (codeK_ok hsame ctx hc fr (.region a) hl) h
  | .block id (.draw a b), hl, σ, S, e, K, h => blk hsame ctx hc fr id (.draw a b) (fun _ _ => rfl) (codeK_ok hsame ctx hc fr (.draw a b) hl) h
  | .block id (.drawC a b), hl, σ, S, e, K, h => blk hsame ctx hc fr id (.drawC a b) (fun _ _ => rfl) (codeK_ok hsame ctx hc fr (.drawC a b) hl) h
  | .block id (.seq a b), hl, σ, S, e, K, h => blk hsame ctx hc fr id (.seq a b) (fun _ _ => rfl) (codeK_ok hsame ctx hc fr (.seq a b) hl) h
  | .block id (.cond x a b), hl, σ, S, e, K, h => blk hsame ctx hc fr id (.cond x a b) (fun _ _ => rfl) (codeK_ok hsame ctx hc fr (.cond x a b) hl) h
  | .block id (.block j a), hl, σ, S, e, K, h => blk hsame ctx hc fr id (.block j a) (fun _ _ => rfl) (codeK_ok hsame ctx hc fr (.block j a) hl) h
  | .loop _, _, σ, S, e, K, h => h.elim
  | .exit _, _, σ, S, e, K, h => ⟨_, _, _, _, rfl, h⟩
  | .ret, _, σ, S, e, K, h => ⟨_, _, _, _, rfl, h⟩
  where
  blk (hsame : ∀ S, o.same S S false = true) (ctx : Ctx) {call : Call'} {cp : CallP} (hc : CpOk call cp) (fr : Fr) {LP : LoopP} (id : Nat) (c : PC)
      (hb : ∀ (s : St) (_ : Unit), codeO o ctx call fr (.block id c) s = match codeO o ctx call fr c s with
        | some (.exit i, s') => some (if i = id then .normal else .exit i, s')
        | r => r) (ih : ∀ (σ : Nat → PV) (S : List SObj) (e : Bool) (K : KC), codeK o LP ctx cp fr c σ S e K →
    ∃ x σ' S' e', codeO o ctx call fr c (σ, S, e) = some (x, σ', S', e') ∧ K x σ' S' e') {σ : Nat → PV} {S : List SObj} {e : Bool} {K : KC} (h : codeK o LP ctx cp fr c σ S e fun x σ' S' e' => match x with
    | .normal => K .normal σ' S' e'
    | .exit i => if i = id then K .normal σ' S' e' else K (.exit i) σ' S' e'
    | .ret => K .ret σ' S' e') : ∃ x σ' S' e', codeO o ctx call fr (.block id c) (σ, S, e) = some (x, σ', S', e') ∧ K x σ' S' e' := by
    obtain ⟨x, σ', S', e', h1, h2⟩ := ih _ _ _ _ h
    rw [hb _ ()]
    cases x with
    | normal => exact ⟨_, _, _, _, by simp only [h1], h2⟩
    | exit i =>
      simp only at h2
      split at h2
      · rename_i hi; exact ⟨_, _, _, _, by simp only [h1, hi, if_true], h2⟩
      · rename_i hi; exact ⟨_, _, _, _, by simp only [h1, hi, if_false], h2⟩
    | ret => exact ⟨_, _, _, _, by simp only [h1], h2⟩

def resK (ctx : Ctx) (S : List SObj) (σ : Nat → PV) : List ResultVar → (List PV → Prop) → Prop
  | [], K => K []
  | .tmp t :: rs, K => resK ctx S σ rs fun vs => K (σ t :: vs)
  | .cell a t :: rs, K => loadK o ctx t (σ a) S fun v => resK ctx S σ rs fun vs => K (v :: vs)

theorem resK_ok (ctx : Ctx) (S : List SObj) (σ : Nat → PV) : ∀ (rs : List ResultVar) (K : List PV → Prop), resK o ctx S σ rs K → ∃ vs, resO o ctx S σ rs = some vs ∧ K vs
  | [], K, h => ⟨[], rfl, h⟩
  | .tmp t :: rs, K, h => by
    obtain ⟨vs, h1, h2⟩ := resK_ok ctx S σ rs _ h
    exact ⟨σ t :: vs, by simp only [resO, h1], h2⟩
  | .cell a t :: rs, K, h => by
    obtain ⟨v, h1, h2⟩ := loadK_ok o _ _ _ _ _ h
    obtain ⟨vs, h3, h4⟩ := resK_ok ctx S σ rs _ h2
    exact ⟨v :: vs, by simp only [resO, h1, h3], h4⟩

def bodyK (LP : LoopP) (ctx : Ctx) (cp : CallP) (pf : PFn) (args : List PV) (S : List SObj) (K : KV) : Prop :=
  codeK o LP ctx cp ⟨pf.ntmps, o.sn S⟩ pf.body (fun i => args.getD i (.tup [])) S false fun x σ S' e => match x with
    | .normal => resK o ctx S' σ pf.results fun vs => K (tupled vs) S' e
    | .exit _ => False
    | .ret => resK o ctx S' σ pf.results fun vs => K (tupled vs) S' e

theorem bodyK_ok (hsame : ∀ S, o.same S S false = true) (ctx : Ctx) {call : Call'} {cp : CallP} (hc : CpOk call cp) {LP : LoopP} {pf : PFn} {args : List PV} {S : List SObj} {K : KV}
    (hl : LoopOk o LP ctx call ⟨pf.ntmps, o.sn S⟩ (loopsOf pf.body)) (h : bodyK o LP ctx cp pf args S K) : ∃ v S' e, bodyO o ctx call pf args S = some (v, S', e) ∧ K v S' e := by
  obtain ⟨x, σ', S', e', h1, h2⟩ := codeK_ok o hsame ctx hc _ _ hl _ _ _ _ h
  unfold bodyO
  rw [h1]
  cases x with
  | normal =>
    obtain ⟨vs, h3, h4⟩ := resK_ok o _ _ _ _ _ h2
    simp only [h3]; exact ⟨_, _, _, rfl, h4⟩
  | exit i => exact h2.elim
  | ret =>
    obtain ⟨vs, h3, h4⟩ := resK_ok o _ _ _ _ _ h2
    simp only [h3]; exact ⟨_, _, _, rfl, h4⟩

/-- What holds of the calls. -/
def CpIs (env : Env) (cp : CallP) : Prop := ∀ {f args S K v S' e}, evw env f args S = some (v, S', e) → K v S' e → cp f args S K

/-- What holds of the loops. -/
def LpIs (o : Prim) (LP : LoopP) (ctx : Ctx) (cp : CallP) (fr : Fr) (l : List (Nat × PC)) : Prop :=
  ∀ p ∈ l, ∀ {σ S e K}, codeK o LP ctx cp fr p.2 σ S e (fun x σ' S' e' => match x with
    | .normal => LP p.1 σ' S' e' K
    | .exit i => K (.exit i) σ' S' e'
    | .ret => K .ret σ' S' e') → LP p.1 σ S e K

def cpOf (env : Env) : CallP := fun f args S K => ∃ v S' e, evw env f args S = some (v, S', e) ∧ K v S' e
theorem cpOf_ok (env : Env) : CpOk (evw env) (cpOf env) := fun _ _ _ _ h => h
theorem cpOf_is (env : Env) : CpIs env (cpOf env) := fun h h' => ⟨_, _, _, h, h'⟩

def loopPOf (ctx : Ctx) (call : Call') (fr : Fr) (l : List (Nat × PC)) : LoopP := fun id σ S e K =>
  ∃ x σ' S' e', lpOf real ctx call fr l id (σ, S, e) = some (x, σ', S', e') ∧ K x σ' S' e'

theorem loopPOf_ok (ctx : Ctx) (call : Call') (fr : Fr) (l : List (Nat × PC)) (hu : uniq (l.map (·.1)) = true) : LoopOk real (loopPOf ctx call fr l) ctx call fr l := by
  intro p hp σ S e K h
  obtain ⟨x, σ', S', e', h1, h2⟩ := h
  rw [lpOf_ok real ctx call fr l hu p hp] at h1
  exact ⟨_, _, _, _, h1, h2⟩

theorem loopPOf_is (ctx : Ctx) {call : Call'} {cp : CallP} (hc : CpOk call cp) (fr : Fr) (l : List (Nat × PC)) (hu : uniq (l.map (·.1)) = true) (hsub : ∀ p ∈ l, ∀ q ∈ loopsOf p.2, q ∈ l) :
    LpIs real (loopPOf ctx call fr l) ctx cp fr l := by
  intro p hp σ S e K h
  have hl : LoopOk real (loopPOf ctx call fr l) ctx call fr (loopsOf p.2) := fun q hq => loopPOf_ok ctx call fr l hu q (hsub p hp q hq)
  obtain ⟨x, σ', S', e', h1, h2⟩ := codeK_ok real real_same ctx hc fr p.2 hl _ _ _ _ h
  have hlp := lpOf_ok real ctx call fr l hu p hp
  cases x with
  | normal =>
    obtain ⟨x, σ2, S2, e2, h3, h4⟩ := h2
    refine ⟨x, σ2, S2, e2, ?_, h4⟩
    rw [hlp] at h3 ⊢
    exact loopw_more h1 h3
  | exit i => exact ⟨_, _, _, _, by rw [hlp]; exact loopw_exit h1, h2⟩
  | ret => exact ⟨_, _, _, _, by rw [hlp]; exact loopw_ret h1, h2⟩

theorem loops_sub : ∀ (c : PC) (p : Nat × PC), p ∈ loopsOf c → ∀ q ∈ loopsOf p.2, q ∈ loopsOf c
  | .skip, p, hp => by simp [loopsOf] at hp
  | .region _, p, hp => by simp [loopsOf] at hp
  | .draw _ _, p, hp => by simp [loopsOf] at hp
  | .drawC _ _, p, hp => by simp [loopsOf] at hp
  | .seq a b, p, hp => fun q hq => by
    simp only [loopsOf, List.mem_append] at hp ⊢
    rcases hp with hp | hp
    · exact .inl (loops_sub a p hp q hq)
    · exact .inr (loops_sub b p hp q hq)
  | .cond _ a b, p, hp => fun q hq => by
    simp only [loopsOf, List.mem_append] at hp ⊢
    rcases hp with hp | hp
    · exact .inl (loops_sub a p hp q hq)
    · exact .inr (loops_sub b p hp q hq)
  | .block id (.loop c), p, hp => fun q hq => by
    simp only [loopsOf, List.mem_cons] at hp ⊢
    rcases hp with rfl | hp
    · exact .inr hq
    · exact .inr (loops_sub c p hp q hq)
  | .block id .skip, p, hp => by simp [loopsOf] at hp
  | .block id (.region _), p, hp => by simp [loopsOf] at hp
  | .block id (.draw _ _), p, hp => by simp [loopsOf] at hp
  | .block id (.drawC _ _), p, hp => by simp [loopsOf] at hp
  | .block id (.exit _), p, hp => by simp [loopsOf] at hp
  | .block id .ret, p, hp => by simp [loopsOf] at hp
  | .block id (.seq a b), p, hp => fun q hq => by
    have := loops_sub (.seq a b) p (by simpa only [loopsOf] using hp) q hq
    simpa only [loopsOf] using this
  | .block id (.cond x a b), p, hp => fun q hq => by
    have := loops_sub (.cond x a b) p (by simpa only [loopsOf] using hp) q hq
    simpa only [loopsOf] using this
  | .block id (.block j a), p, hp => fun q hq => by
    have := loops_sub (.block j a) p (by simpa only [loopsOf] using hp) q hq
    simpa only [loopsOf] using this
  | .loop _, p, hp => by simp [loopsOf] at hp
  | .exit _, p, hp => by simp [loopsOf] at hp
  | .ret, p, hp => by simp [loopsOf] at hp

/-- A call that the store plays no part in. -/
theorem evw_pureK {env : Env} {f : FuncId} {pf : PFn} (hi : env.intr f = none) (hf : env.fn f = some pf) {args bs : List PV} {S : List SObj} {v' : PV}
    (ha : args.map PV.strip = bs) (hl : bs.length ≤ pf.ntmps) (hc : cleanL bs = true) (hvc : v'.clean = true)
    (hu : uniq ((loopsOf pf.body).map (·.1)) = true)
    (h : ∀ o LP cp, o = real → CpIs env cp → LpIs o LP env.ctx cp ⟨pf.ntmps, 0⟩ (loopsOf pf.body) → bodyK o LP env.ctx cp pf bs [] fun v _ _ => v.strip = v') : evw env f args S = some (v', S, false) := by
  have hl' := loopPOf_ok env.ctx (evw env) ⟨pf.ntmps, 0⟩ _ hu
  have h2 := h real _ _ rfl (cpOf_is env) (loopPOf_is env.ctx (cpOf_ok env) ⟨pf.ntmps, 0⟩ _ hu (loops_sub pf.body))
  obtain ⟨w, S1, e1, hb, hv⟩ := bodyK_ok real real_same env.ctx (cpOf_ok env) (by exact hl') h2
  obtain ⟨k, hk⟩ := body_lim hb
  refine lim_of (k + 1) fun k' hk' => ?_
  obtain ⟨j, rfl⟩ : ∃ j, k' = j + 1 := ⟨k' - 1, by omega⟩
  have hl' : args.length ≤ pf.ntmps := by rw [← ha] at hl; simpa using hl
  simp only [ev, hi, hf, hl', if_true, ha, hc, hk j (by omega), hv, hvc]

/-- The store's operations shown. -/
def shown (o : Prim) : Prim := { o with
  sn := fun S => S.length, sget := fun S i => S[i]?, sset := fun S i x => S.set i x, spush := fun S x => S ++ [x]
  or := fun a b => a || b, nlen := fun n => n }

/-- A call that the store plays a part in. -/
theorem evw_storeK {env : Env} {f : FuncId} {pf : PFn} (hi : env.intr f = none) (hf : env.fn f = some pf) {args : List PV} {S : List SObj} {r : PV × List SObj × Bool}
    (hl : args.length ≤ pf.ntmps) (hc : cleanL (args.map PV.strip) = false)
    (hu : uniq ((loopsOf pf.body).map (·.1)) = true)
    (h : ∀ o LP cp, o = real → CpIs env cp → LpIs o LP env.ctx cp ⟨pf.ntmps, o.sn S⟩ (loopsOf pf.body) → bodyK o LP env.ctx cp pf args S fun v S' e => leave (o.sn S) v S' e = r) : evw env f args S = some r := by
  have hl' := loopPOf_ok env.ctx (evw env) ⟨pf.ntmps, S.length⟩ _ hu
  have h2 := h real _ _ rfl (cpOf_is env) (loopPOf_is env.ctx (cpOf_ok env) ⟨pf.ntmps, S.length⟩ _ hu (loops_sub pf.body))
  obtain ⟨w, S1, e1, hb, hv⟩ := bodyK_ok real real_same env.ctx (cpOf_ok env) (by exact hl') h2
  obtain ⟨k, hk⟩ := body_lim hb
  refine lim_of (k + 1) fun k' hk' => ?_
  obtain ⟨j, rfl⟩ : ∃ j, k' = j + 1 := ⟨k' - 1, by omega⟩
  have hv' : leave S.length w S1 e1 = r := hv
  simp only [ev, hi, hf, hl, if_true, hc, hk j (by omega), Bool.false_eq_true, if_false, hv']
end Go.Pam
namespace Go.Pam
theorem ifK {b : Bool} {P Q : Prop} (h1 : b = true → P) (h2 : b = false → Q) : if b = true then P else Q := by
  cases b
  · exact h2 rfl
  · exact h1 rfl

/-- What the sealed operations are. -/
structure Laws (o : Prim) : Prop where
  st : Stor o.sn o.sget o.sset o.spush o.same
  is : o = real
end Go.Pam
