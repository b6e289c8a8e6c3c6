/- The abstract machine behind names, the rest. -/
import Derived.Test.YthcchjhieolflaaPam16
namespace Go.Pam
variable (o : Prim)

def loadO (ctx : Ctx) (t : TypeId) (a : PV) (S : List SObj) : Option PV :=
  match a with
  | .ptr id off =>
    match o.sget S id with
    | some (.cells cs) => partOf ctx t cs off
    | _ => none
  | .iptr cs off => partOf ctx t cs off
  | _ => none

theorem loadO_eq (ctx : Ctx) (t : TypeId) (a : PV) (S : List SObj) : loadO real ctx t a S = loadPV ctx t a S := by
  cases a <;> rfl

def storeO (ctx : Ctx) (base : Nat) (t : TypeId) (a x : PV) (S : List SObj) : Option (List SObj × Bool) :=
  match a with
  | .ptr id off =>
    match o.sget S id, ctx.ty t with
    | some (.cells cs), some ti =>
      if x.storable = false ∨ x.cells.length ≠ ti.size ∨ off + ti.size > cs.length then none
      else some (o.sset S id (.cells (cs.take off ++ x.cells ++ cs.drop (off + ti.size))), o.esc id base x)
    | _, _ => none
  | _ => none

theorem storeO_eq (ctx : Ctx) (base : Nat) (t : TypeId) (a x : PV) (S : List SObj) : storeO real ctx base t a x S = storePV ctx base t a x S := by
  cases a <;> rfl

def convO (ctx : Ctx) (src dst : TypeId) (x : PV) (S : List SObj) : Option (PV × List SObj) :=
  match ctx.ty src, ctx.ty dst with
  | some si, some di =>
    match si.und, di.und, x with
    | .int _, .int k, .int _ n => some (.int k (o.conv k n), S)
    | .string, .string, .str s => some (.str s, S)
    | .string, .slice e, .str s =>
      match ctx.ty e with
      | some ei => match ei.und with
        | .int .u8 => some (.lst (o.sbytes s) (.tip (o.sn S)), o.spush S (.tip (o.sfit2 s) 1))
        | _ => none
      | none => none
    | .slice e, .string, .lst xs _ =>
      match ctx.ty e with
      | some ei => match ei.und with
        | .int .u8 => (o.ltext xs).map fun b => (.str b, S)
        | _ => none
      | none => none
    | .slice e, .string, .nils =>
      match ctx.ty e with
      | some ei => match ei.und with
        | .int .u8 => some (.str [], S)
        | _ => none
      | none => none
    | _, _, _ => none
  | _, _ => none

theorem convO_eq (ctx : Ctx) (s d : TypeId) (x : PV) (S : List SObj) : convO real ctx s d x S = convPV ctx s d x S := by
  unfold convO convPV
  cases ctx.ty s with
  | none => cases ctx.ty d <;> rfl
  | some si => cases ctx.ty d with
    | none => rfl
    | some di =>
      obtain ⟨u1, _, _, _, _, _, _⟩ := si
      obtain ⟨u2, _, _, _, _, _, _⟩ := di
      cases u1 <;> try rfl

def lenO (ctx : Ctx) (t : TypeId) (x : PV) (S : List SObj) : Option Int :=
  match ctx.ty t with
  | none => none
  | some ti =>
    match ti.und, x with
    | .string, .str s => some (o.slen s)
    | .array n _, _ => some n
    | .slice _, .nils => some 0
    | .slice _, .lst xs _ => some (o.llen xs)
    | .slice _, .hsl _ _ n => some (o.nlen n)
    | .map _ _, .nilm => some 0
    | .map _ _, .map id => match o.sget S id with
      | some (.map es) => some es.length
      | _ => none
    | _, _ => none

theorem lenO_eq (ctx : Ctx) (t : TypeId) (x : PV) (S : List SObj) : lenO real ctx t x S = lenPV ctx t x S := by
  unfold lenO lenPV
  cases ctx.ty t with
  | none => rfl
  | some ti =>
    obtain ⟨u1, _, _, _, _, _, _⟩ := ti
    cases u1 <;> cases x <;> rfl

def listO : PV → Option (List PV)
  | .nils => some []
  | .lst xs _ => some xs
  | .str s => some (o.sbytes s)
  | _ => none

theorem listO_eq (x : PV) : listO real x = listOf x := by cases x <;> rfl

def appendO (ctx : Ctx) (ts : Array TypeId) (s x : PV) (S : List SObj) : Option (PV × List SObj) :=
  match ts[0]?, ts[1]? with
  | some t, some u =>
    match ctx.ty t, ctx.ty u, listO o x with
    | some ti, some ui, some ys =>
      match ti.und, ui.und with
      | .slice _, .int _ => none
      | .slice e, _ =>
        match ctx.ty e with
        | none => none
        | some ei =>
          if o.lemp ys then (if isSlice s then some (s, S) else none) else
          if o.lsized ei.size ys = false ∨ ei.size = 0 ∨ ei.bytes = 0 ∨ ei.zero.storable = false ∨ ei.zero.cells.length ≠ ei.size then none else
          match s with
          | .nils => if o.lfits [] ys ei.bytes then some (.lst ys (.tip (o.sn S)), o.spush S (.tip (o.lnum ys) ei.size)) else none
          | .lst xs .full => if o.lfits xs ys ei.bytes && o.lsized ei.size xs then some (.lst (o.lapp xs ys) (.tip (o.sn S)), o.spush S (.tip (o.lsum xs ys) ei.size)) else none
          | .lst xs (.tip id) =>
            match o.sget S id with
            | some (.tip hw sz) => if o.tipOk xs ys ei.bytes ei.size hw sz then some (.lst (o.lapp xs ys) (.tip id), o.sset S id (.tip (o.lsum xs ys) sz)) else none
            | _ => none
          | _ => none
      | _, _ => none
    | _, _, _ => none
  | _, _ => none

theorem appendO_eq (ctx : Ctx) (ts : Array TypeId) (s x : PV) (S : List SObj) : appendO real ctx ts s x S = appendPV ctx ts s x S := by
  unfold appendO appendPV
  rw [listO_eq]
  cases ts[0]? with
  | none => rfl
  | some t => cases ts[1]? with
    | none => rfl
    | some u =>
      dsimp only
      cases ctx.ty t with
      | none => rfl
      | some ti => cases ctx.ty u with
        | none => rfl
        | some ui => cases listOf x with
          | none => rfl
          | some ys =>
            obtain ⟨u1, _, _, _, _, _, _⟩ := ti
            obtain ⟨u2, _, _, _, _, _, _⟩ := ui
            have key : ∀ e, (match ctx.ty e with
                | none => none
                | some ei =>
                  if real.lemp ys then (if isSlice s then some (s, S) else none) else
                  if real.lsized ei.size ys = false ∨ ei.size = 0 ∨ ei.bytes = 0 ∨ ei.zero.storable = false ∨ ei.zero.cells.length ≠ ei.size then none else
                  match s with
                  | .nils => if real.lfits [] ys ei.bytes then some (.lst ys (.tip (real.sn S)), real.spush S (.tip (real.lnum ys) ei.size)) else none
                  | .lst xs .full => if real.lfits xs ys ei.bytes && real.lsized ei.size xs then some (.lst (real.lapp xs ys) (.tip (real.sn S)), real.spush S (.tip (real.lsum xs ys) ei.size)) else none
                  | .lst xs (.tip id) =>
                    match real.sget S id with
                    | some (.tip hw sz) => if real.tipOk xs ys ei.bytes ei.size hw sz then some (.lst (real.lapp xs ys) (.tip id), real.sset S id (.tip (real.lsum xs ys) sz)) else none
                    | _ => none
                  | _ => none) =
                (match ctx.ty e with
                | none => none
                | some ei =>
                  if ys.isEmpty then (if isSlice s then some (s, S) else none) else
                  if sizedAll ei.size ys = false ∨ ei.size = 0 ∨ ei.bytes = 0 ∨ ei.zero.storable = false ∨ ei.zero.cells.length ≠ ei.size then none else
                  match s with
                  | .nils => if ys.length * ei.bytes ≤ 2 ^ 47 then some (.lst ys (.tip S.length), S ++ [.tip ys.length ei.size]) else none
                  | .lst xs .full => if (xs.length + ys.length) * ei.bytes ≤ 2 ^ 47 ∧ sizedAll ei.size xs then some (.lst (xs ++ ys) (.tip S.length), S ++ [.tip (xs.length + ys.length) ei.size]) else none
                  | .lst xs (.tip id) =>
                    match S[id]? with
                    | some (.tip hw sz) => if hw = xs.length ∧ sz = ei.size ∧ (xs.length + ys.length) * ei.bytes ≤ 2 ^ 47 then some (.lst (xs ++ ys) (.tip id), S.set id (.tip (xs.length + ys.length) sz)) else none
                    | _ => none
                  | _ => none) := by
              intro e
              cases ctx.ty e with
              | none => rfl
              | some ei =>
                cases s <;> try rfl
                · simp [real] <;> rfl
                · rename_i xs tag
                  cases tag <;> try rfl
                  · simp [real]
                  · simp [real]
            cases u1 <;> cases u2 <;> first | rfl | exact key _

def minmaxO (mx : Bool) : List PV → Option PV
  | [] => none
  | .int k n :: r => go k n r
  | _ => none
  where
  go (k : IntKind) (n : Int) : List PV → Option PV
    | [] => some (.int k n)
    | .int _ m :: r => go k (if mx then o.mx n m else o.mn n m) r
    | _ => none

theorem minmaxO_go (mx : Bool) (k : IntKind) : ∀ (l : List PV) (n : Int), minmaxO.go real mx k n l = minmax.go mx k n l
  | [], n => rfl
  | x :: r, n => by
    cases x <;> try rfl
    exact minmaxO_go mx k r _

theorem minmaxO_eq (mx : Bool) (l : List PV) : minmaxO real mx l = minmax mx l := by
  cases l with
  | nil => rfl
  | cons x r => cases x <;> try rfl
                exact minmaxO_go mx _ r _

def makeSliceO (ctx : Ctx) (t : TypeId) (l c : PV) (S : List SObj) : Option (PV × List SObj) :=
  match ctx.ty t, l, c with
  | some ti, .int _ n, .int _ m =>
    match ti.und with
    | .slice e => match ctx.ty e with
      | some ei => if o.repOk n m ei.bytes && (ei.size != 0 && (ei.zero.cells.length == ei.size && ei.zero.storable)) then some (.lst (o.rep n ei.zero) .full, S) else none
      | none => none
    | _ => none
  | _, _, _ => none

theorem makeSliceO_eq (ctx : Ctx) (t : TypeId) (l c : PV) (S : List SObj) : makeSliceO real ctx t l c S = makeSlicePV ctx t l c S := by
  unfold makeSliceO makeSlicePV
  cases ctx.ty t with
  | none => rfl
  | some ti =>
    obtain ⟨u1, _, _, _, _, _, _⟩ := ti
    cases l <;> cases c <;> try rfl
    cases u1 <;> try rfl
    dsimp only
    split
    · rename_i h; rw [h]; simp [real, and_assoc]
    · rename_i h; rw [h]

def callO (ctx : Ctx) (call : Call') (σ : Nat → PV) (S : List SObj) (c : Go.Call) : Option (PV × List SObj × Bool) :=
  match c.callee with
  | .builtin .len => match c.argTypes[0]?, c.args.toList.map (opd σ) with
    | some t, x :: _ => (lenO o ctx t x S).map fun n => (.int .i64 n, S, false)
    | _, _ => none
  | .builtin .append => match c.args.toList.map (opd σ) with
    | s :: x :: _ => (appendO o ctx c.argTypes s x S).map fun (v, S') => (v, S', false)
    | _ => none
  | .builtin .min => (minmaxO o false (c.args.toList.map (opd σ))).map fun v => (v, S, false)
  | .builtin .max => (minmaxO o true (c.args.toList.map (opd σ))).map fun v => (v, S, false)
  | .builtin _ => none
  | .value f => match opd σ f with
    | .fn (.func f) [] cap => call f (c.args.toList.map (opd σ) ++ cap) S
    | _ => none
  | .invoke r name => match methodPV ctx (opd σ r) name with
    | some (f, v) => call f (v :: c.args.toList.map (opd σ)) S
    | none => none

theorem callO_eq (ctx : Ctx) (call : Call') (σ : Nat → PV) (S : List SObj) (c : Go.Call) : callO real ctx call σ S c = callPV ctx call σ S c := by
  unfold callO callPV
  simp only [lenO_eq, appendO_eq, minmaxO_eq]
  rfl

def stepO (ctx : Ctx) (call : Call') (base : Nat) (σ : Nat → PV) (S : List SObj) (op : Op) : Option (PV × List SObj × Bool) :=
  match op with
  | .move x => some (opd σ x, S, false)
  | .assign x => some (opd σ x, S, false)
  | .pick c a b => match opd σ c with
    | .bool t => some (if t then opd σ a else opd σ b, S, false)
    | _ => none
  | .alloc t => match ctx.ty t with
    | some ti => if ti.zero.storable then some (.ptr (o.sn S) 0, o.spush S (.cells ti.zero.cells), false) else none
    | none => none
  | .box _ x => if (opd σ x).storable then some (.ptr (o.sn S) 0, o.spush S (.cells (opd σ x).cells), false) else none
  | .build t ps => (buildPV ctx t (ps.toList.map fun p => (p.1, opd σ p.2))).map fun v => (v, S, false)
  | .buildSlice t n ps => (buildSlicePV ctx t n (ps.toList.map fun p => (p.1, opd σ p.2))).map fun v => (v, S, false)
  | .load t a => (loadO o ctx t (opd σ a) S).map fun v => (v, S, false)
  | .store t a x => (storeO o ctx base t (opd σ a) (opd σ x) S).map fun (S', e) => (.tup [], S', e)
  | .nilCheck x => match opd σ x with
    | .ptr i o => some (.ptr i o, S, false)
    | .iptr cs o => some (.iptr cs o, S, false)
    | .ifc t v => some (.ifc t v, S, false)
    | .fn (.func f) a b => some (.fn (.func f) a b, S, false)
    | _ => none
  | .binOp op t x y _ => (binO o ctx op t x y (opd σ x) (opd σ y)).map fun v => (v, S, false)
  | .unOp op _ x => (unO o op (opd σ x)).map fun v => (v, S, false)
  | .convert s d x => (convO o ctx s d (opd σ x) S).map fun (v, S') => (v, S', false)
  | .makeInterface t x => match ctx.ty t with
    | some ti => match ti.und with
      | .interface _ => none
      | _ => some (.ifc t (opd σ x), S, false)
    | none => none
  | .makeFunc f as bs => some (.fn f (as.toList.map (opd σ)) (bs.toList.map (opd σ)), S, false)
  | .makeSlice t l c => (makeSliceO o ctx t (opd σ l) (opd σ c) S).map fun (v, S') => (v, S', false)
  | .slice t x lo hi mx => (sliceO o ctx t (opd σ x) (lo.map (opd σ)) (hi.map (opd σ)) (mx.map (opd σ))).map fun v => (v, S, false)
  | .fieldAddr t x i => (fieldAddrPV ctx t (opd σ x) i).map fun v => (v, S, false)
  | .field t x i => match fieldsOf ctx t, opd σ x with
    | some fs, .agg cs => match fs[i]? with
      | some f => (partOf ctx f.type cs f.offset).map fun v => (v, S, false)
      | none => none
    | _, _ => none
  | .indexAddr t x i => match opd σ i with
    | .int _ n => (indexAddrO o ctx t (opd σ x) n).map fun v => (v, S, false)
    | _ => none
  | .index t x i => match opd σ i with
    | .int _ n => (indexO o ctx t (opd σ x) n).map fun v => (v, S, false)
    | _ => none
  | .typeAssert x _ t ok => (assertPV ctx (opd σ x) t ok).map fun v => (v, S, false)
  | .extract x i => match opd σ x with
    | .tup vs => (vs[i]?).map fun v => (v, S, false)
    | _ => none
  | .call c => callO o ctx call σ S c
  | _ => none

theorem stepO_eq (ctx : Ctx) (call : Call') (base : Nat) (σ : Nat → PV) (S : List SObj) (op : Op) : stepO real ctx call base σ S op = evStep ctx call base σ S op := by
  cases op <;> simp only [stepO, evStep, loadO_eq, storeO_eq, binO_eq, unO_eq, convO_eq, makeSliceO_eq, sliceO_eq, indexAddrO_eq, indexO_eq, callO_eq] <;> rfl

def opsO (ctx : Ctx) (call : Call') (fr : Fr) : List POp → (Nat → PV) → List SObj → Bool → Option ((Nat → PV) × List SObj × Bool)
  | [], σ, S, e => some (σ, S, e)
  | p :: rest, σ, S, e =>
    if dstOk fr.ntmps p.dst then
      match p.guard with
      | none =>
        match stepO o ctx call fr.base σ S p.op with
        | none => none
        | some (v, S', e') => opsO ctx call fr rest (upd σ p.dst v) S' (o.or e e')
      | some (t, want) =>
        match σ t with
        | .bool b =>
          if (if want then b else !b) then
            match stepO o ctx call fr.base σ S p.op with
            | none => none
            | some (v, S', e') => opsO ctx call fr rest (upd σ p.dst v) S' (o.or e e')
          else opsO ctx call fr rest (upd σ p.dst (.tup [])) S e
        | .tup [] => opsO ctx call fr rest (upd σ p.dst (.tup [])) S e
        | _ => none
    else none

theorem opsO_eq (ctx : Ctx) (call : Call') (fr : Fr) : ∀ (l : List POp) (σ : Nat → PV) (S : List SObj) (e : Bool), opsO real ctx call fr l σ S e = evOps ctx call fr l σ S e
  | [], _, _, _ => rfl
  | p :: rest, σ, S, e => by
    obtain ⟨dst, op, guard⟩ := p
    simp only [opsO, evOps, stepO_eq, opsO_eq ctx call fr rest]
    split
    · cases guard with
      | none => rfl
      | some q =>
        obtain ⟨t, want⟩ := q
        simp only [wantedPV]
        cases σ t <;> try rfl
        · rename_i b; cases b <;> cases want <;> rfl
        · rename_i vs; cases vs <;> rfl
    · rfl

def headO (ctx : Ctx) (call : Call') (fr : Fr) (S : List SObj) : List POp → (Nat → PV) → Option (Nat → PV)
  | [], σ => some σ
  | p :: rest, σ =>
    if dstOk fr.ntmps p.dst then
      match p.guard with
      | none =>
        match stepO o ctx call fr.base σ S p.op with
        | none => none
        | some (v, S', e') => if o.same S' S e' then headO ctx call fr S rest (upd σ p.dst v) else none
      | some (t, want) =>
        match σ t with
        | .bool b =>
          if (if want then b else !b) then
            match stepO o ctx call fr.base σ S p.op with
            | none => none
            | some (v, S', e') => if o.same S' S e' then headO ctx call fr S rest (upd σ p.dst v) else none
          else headO ctx call fr S rest (upd σ p.dst (.tup []))
        | .tup [] => headO ctx call fr S rest (upd σ p.dst (.tup []))
        | _ => none
    else none

theorem headO_eq (ctx : Ctx) (call : Call') (fr : Fr) (S : List SObj) : ∀ (l : List POp) (σ : Nat → PV), headO real ctx call fr S l σ = evHead ctx call fr S l σ
  | [], _ => rfl
  | p :: rest, σ => by
    obtain ⟨dst, op, guard⟩ := p
    simp only [headO, evHead, stepO_eq, headO_eq ctx call fr S rest]
    split
    · cases guard with
      | none => rfl
      | some q =>
        obtain ⟨t, want⟩ := q
        simp only [wantedPV]
        cases σ t <;> try rfl
        · rename_i b; cases b <;> cases want <;> rfl
        · rename_i vs; cases vs <;> rfl
    · rfl

noncomputable def codeO (ctx : Ctx) (call : Call') (fr : Fr) : PC → St → Option (Ex × St)
  | .skip, s => some (.normal, s)
  | .region ops, s =>
    match opsO o ctx call fr ops s.1 s.2.1 s.2.2 with
    | some s' => some (.normal, s')
    | none => none
  | .draw hd tl, s =>
    match headO o ctx call fr s.2.1 hd s.1 with
    | some σ =>
      match opsO o ctx call fr tl σ s.2.1 s.2.2 with
      | some s' => some (.normal, s')
      | none => none
    | none => none
  | .drawC hd tl, s =>
    match evChain ctx call fr hd [] [] s.1 s.2.1 s.2.2 with
    | some s1 =>
      match evOps ctx call fr tl s1.1 s1.2.1 s1.2.2 with
      | some s' => some (.normal, s')
      | none => none
    | none => none
  | .seq a b, s =>
    match codeO ctx call fr a s with
    | some (.normal, s') => codeO ctx call fr b s'
    | r => r
  | .cond c a b, s =>
    match opd s.1 c with
    | .bool t => if t then codeO ctx call fr a s else codeO ctx call fr b s
    | _ => none
  | .block id c, s =>
    match codeO ctx call fr c s with
    | some (.exit i, s') => some (if i = id then .normal else .exit i, s')
    | r => r
  | .loop c, s => o.loop (codeO ctx call fr c) s
  | .exit id, s => some (.exit id, s)
  | .ret, s => some (.ret, s)

theorem step_lim {env : Env} {base : Nat} {σ : Nat → PV} {S : List SObj} {op : Op} {r : PV × List SObj × Bool} (h : evStep env.ctx (evw env) base σ S op = some r) :
    ∃ k, ∀ k', k ≤ k' → evStep env.ctx (ev env k') base σ S op = some r := by
  cases op
  case call c =>
    simp only [evStep] at h ⊢
    unfold callPV at h ⊢
    split at h
    all_goals try exact ⟨0, fun _ _ => h⟩
    · split at h
      · exact of_lim h
      · cases h
    · split at h
      · rename_i hm; exact of_lim h
      · cases h
  all_goals exact ⟨0, fun _ _ => h⟩

theorem ops_lim {env : Env} {fr : Fr} : ∀ {l : List POp} {σ : Nat → PV} {S : List SObj} {e : Bool} {r : (Nat → PV) × List SObj × Bool}, evOps env.ctx (evw env) fr l σ S e = some r →
    ∃ k, ∀ k', k ≤ k' → evOps env.ctx (ev env k') fr l σ S e = some r
  | [], σ, S, e, r, h => ⟨0, fun _ _ => h⟩
  | p :: rest, σ, S, e, r, h => by
    simp only [evOps] at h ⊢
    split at h
    case isFalse => cases h
    rename_i hd
    simp only [hd, if_true]
    split at h
    · cases h
    · rename_i hw
      obtain ⟨k, hk⟩ := ops_lim h
      exact ⟨k, hk⟩
    · rename_i hw
      split at h
      · cases h
      rename_i v S' e' hs
      obtain ⟨k1, h1⟩ := step_lim hs
      obtain ⟨k2, h2⟩ := ops_lim h
      exact ⟨max k1 k2, fun k' hk' => by rw [h1 k' (by omega)]; exact h2 k' (by omega)⟩

theorem head_lim {env : Env} {fr : Fr} {S : List SObj} : ∀ {l : List POp} {σ : Nat → PV} {r : Nat → PV}, evHead env.ctx (evw env) fr S l σ = some r →
    ∃ k, ∀ k', k ≤ k' → evHead env.ctx (ev env k') fr S l σ = some r
  | [], σ, r, h => ⟨0, fun _ _ => h⟩
  | p :: rest, σ, r, h => by
    simp only [evHead] at h ⊢
    split at h
    case isFalse => cases h
    rename_i hd
    simp only [hd, if_true]
    split at h
    · cases h
    · rename_i hw
      obtain ⟨k, hk⟩ := head_lim h
      exact ⟨k, hk⟩
    · rename_i hw
      split at h
      · cases h
      rename_i v S' e' hs
      split at h
      case isFalse => cases h
      rename_i hsame
      obtain ⟨k1, h1⟩ := step_lim hs
      obtain ⟨k2, h2⟩ := head_lim h
      refine ⟨max k1 k2, fun k' hk' => ?_⟩
      rw [h1 k' (by omega)]
      simp only [hsame, if_true]
      exact h2 k' (by omega)

theorem chain_lim {env : Env} {fr : Fr} : ∀ {l : List POp} {hist : List (List SObj)} {pend : List (TypeId × PV × PV)} {σ : Nat → PV} {S : List SObj} {e : Bool} {r : (Nat → PV) × List SObj × Bool}, evChain env.ctx (evw env) fr l hist pend σ S e = some r →
    ∃ k, ∀ k', k ≤ k' → evChain env.ctx (ev env k') fr l hist pend σ S e = some r
  | [], _, _, σ, S, e, r, h => ⟨0, fun _ _ => h⟩
  | p :: rest, hist, pend, σ, S, e, r, h => by
    simp only [evChain] at h ⊢
    split at h
    case isFalse => cases h
    rename_i hd
    simp only [hd, if_true]
    split at h
    · cases h
    · rename_i hw
      obtain ⟨k, hk⟩ := chain_lim h
      exact ⟨k, hk⟩
    · rename_i hw
      split at h
      · cases h
      rename_i v S' e' hs
      obtain ⟨k1, h1⟩ := step_lim hs
      split at h
      · rename_i hch
        split at h
        case isFalse => cases h
        rename_i hp
        obtain ⟨k2, h2⟩ := chain_lim h
        refine ⟨max k1 k2, fun k' hk' => ?_⟩
        rw [h1 k' (by omega)]
        simp only [hch, if_true, if_pos hp]
        exact h2 k' (by omega)
      · rename_i hch
        split at h
        case isFalse => cases h
        rename_i hsame
        split at h
        · rename_i hin
          obtain ⟨k2, h2⟩ := chain_lim h
          refine ⟨max k1 k2, fun k' hk' => ?_⟩
          rw [h1 k' (by omega)]
          simp only [if_neg hch, hsame, hin, if_true]
          exact h2 k' (by omega)
        · rename_i hin
          split at h
          case h_2 => cases h
          rename_i t a hlo
          split at h
          case isFalse => cases h
          rename_i hall
          obtain ⟨k2, h2⟩ := chain_lim h
          refine ⟨max k1 k2, fun k' hk' => ?_⟩
          rw [h1 k' (by omega)]
          simp only [if_neg hch, hsame, if_true, if_neg hin, hlo, if_pos hall]
          exact h2 k' (by omega)

theorem rounds_lim {body : St → Option (Ex × St)} {bk : Nat → St → Option (Ex × St)} (hb : ∀ s r, body s = some r → ∃ k, ∀ k', k ≤ k' → bk k' s = some r) :
    ∀ {n : Nat} {s : St} {r : Ex × St}, rounds body n s = some r → ∃ k, ∀ k', k ≤ k' → ∀ m, n ≤ m → rounds (bk k') m s = some r
  | 0, _, _, h => by cases h
  | n + 1, s, r, h => by
    simp only [rounds] at h
    cases hs : body s with
    | none => rw [hs] at h; cases h
    | some q =>
      obtain ⟨k1, h1⟩ := hb s q hs
      rw [hs] at h
      obtain ⟨x, s'⟩ := q
      cases x with
      | normal =>
        obtain ⟨k2, h2⟩ := rounds_lim hb (n := n) h
        refine ⟨max k1 k2, fun k' hk' m hm => ?_⟩
        obtain ⟨j, rfl⟩ : ∃ j, m = j + 1 := ⟨m - 1, by omega⟩
        simp only [rounds, h1 k' (by omega)]
        exact h2 k' (by omega) j (by omega)
      | exit i =>
        refine ⟨k1, fun k' hk' m hm => ?_⟩
        obtain ⟨j, rfl⟩ : ∃ j, m = j + 1 := ⟨m - 1, by omega⟩
        simp only [rounds, h1 k' hk']
        exact h
      | ret =>
        refine ⟨k1, fun k' hk' m hm => ?_⟩
        obtain ⟨j, rfl⟩ : ∃ j, m = j + 1 := ⟨m - 1, by omega⟩
        simp only [rounds, h1 k' hk']
        exact h

theorem code_lim {env : Env} {fr : Fr} : ∀ (c : PC) (s : St) (r : Ex × St), codeO real env.ctx (evw env) fr c s = some r →
    ∃ k, ∀ k', k ≤ k' → evCode env.ctx (ev env k') fr k' c s = some r
  | .skip, _, _, h => ⟨0, fun _ _ => h⟩
  | .region ops, s, r, h => by
    simp only [codeO, opsO_eq] at h
    split at h
    · rename_i s' hs
      obtain ⟨k, hk⟩ := ops_lim hs
      exact ⟨k, fun k' hk' => by simp only [evCode, hk k' hk']; exact h⟩
    · cases h
  | .draw hd tl, s, r, h => by
    simp only [codeO, opsO_eq, headO_eq] at h
    split at h
    case h_2 => cases h
    rename_i σ hσ
    split at h
    case h_2 => cases h
    rename_i s' hs
    obtain ⟨k1, h1⟩ := head_lim hσ
    obtain ⟨k2, h2⟩ := ops_lim hs
    exact ⟨max k1 k2, fun k' hk' => by simp only [evCode, h1 k' (by omega), h2 k' (by omega)]; exact h⟩
  | .drawC hd tl, s, r, h => by
    simp only [codeO] at h
    split at h
    case h_2 => cases h
    rename_i s1 hσ
    split at h
    case h_2 => cases h
    rename_i s' hs
    obtain ⟨k1, h1⟩ := chain_lim hσ
    obtain ⟨k2, h2⟩ := ops_lim hs
    exact ⟨max k1 k2, fun k' hk' => by simp only [evCode, h1 k' (by omega), h2 k' (by omega)]; exact h⟩
  | .seq a b, s, r, h => by
    simp only [codeO] at h
    split at h
    · rename_i s' hs
      obtain ⟨k1, h1⟩ := code_lim a s _ hs
      obtain ⟨k2, h2⟩ := code_lim b s' _ h
      exact ⟨max k1 k2, fun k' hk' => by simp only [evCode, h1 k' (by omega), h2 k' (by omega)]⟩
    · rename_i hne
      obtain ⟨k1, h1⟩ := code_lim a s _ h
      refine ⟨k1, fun k' hk' => ?_⟩
      simp only [evCode, h1 k' hk']
      obtain ⟨x, s'⟩ := r
      cases x with
      | normal => exact absurd h (hne _)
      | exit i => rfl
      | ret => rfl
  | .cond c a b, s, r, h => by
    simp only [codeO] at h
    split at h
    · rename_i t ht
      cases t with
      | true =>
        obtain ⟨k, hk⟩ := code_lim a s r h
        exact ⟨k, fun k' hk' => by simp only [evCode, ht]; exact hk k' hk'⟩
      | false =>
        obtain ⟨k, hk⟩ := code_lim b s r h
        exact ⟨k, fun k' hk' => by simp only [evCode, ht]; exact hk k' hk'⟩
    · cases h
  | .block id c, s, r, h => by
    simp only [codeO] at h
    split at h
    · rename_i i s' hs
      obtain ⟨k1, h1⟩ := code_lim c s _ hs
      exact ⟨k1, fun k' hk' => by simp only [evCode, h1 k' hk']; exact h⟩
    · rename_i hne
      obtain ⟨k1, h1⟩ := code_lim c s _ h
      refine ⟨k1, fun k' hk' => ?_⟩
      simp only [evCode, h1 k' hk']
      obtain ⟨x, s'⟩ := r
      cases x with
      | normal => rfl
      | exit i => exact absurd h (hne _ _)
      | ret => rfl
  | .loop c, s, r, h => by
    simp only [codeO] at h
    obtain ⟨n, hn⟩ := of_lim h
    obtain ⟨k, hk⟩ := rounds_lim (bk := fun k' => evCode env.ctx (ev env k') fr k' c) (fun s r hs => code_lim c s r hs) (hn n (Nat.le_refl _))
    exact ⟨max k n, fun k' hk' => by simp only [evCode]; exact hk k' (by omega) k' (by omega)⟩
  | .exit id, _, _, h => ⟨0, fun _ _ => h⟩
  | .ret, _, _, h => ⟨0, fun _ _ => h⟩

def resO (ctx : Ctx) (S : List SObj) (σ : Nat → PV) : List ResultVar → Option (List PV)
  | [] => some []
  | r :: rs => match (match r with
      | .tmp t => some (σ t)
      | .cell a t => loadO o ctx t (σ a) S), resO ctx S σ rs with
    | some x, some xs => some (x :: xs)
    | _, _ => none

theorem resO_eq (ctx : Ctx) (S : List SObj) (σ : Nat → PV) : ∀ l, resO real ctx S σ l = resultsOf ctx S σ l
  | [] => rfl
  | r :: rs => by
    simp only [resO, resultsOf, resO_eq ctx S σ rs]
    cases r <;> rfl

noncomputable def bodyO (ctx : Ctx) (call : Call') (pf : PFn) (args : List PV) (S : List SObj) : Option (PV × List SObj × Bool) :=
  match codeO o ctx call ⟨pf.ntmps, o.sn S⟩ pf.body (fun i => args.getD i (.tup []), S, false) with
  | some (.exit _, _) => none
  | some (_, (σ, S', e)) =>
    match resO o ctx S' σ pf.results with
    | some vs => some (tupled vs, S', e)
    | none => none
  | none => none

theorem body_lim {env : Env} {pf : PFn} {args : List PV} {S : List SObj} {r : PV × List SObj × Bool} (h : bodyO real env.ctx (evw env) pf args S = some r) :
    ∃ k, ∀ k', k ≤ k' → runBody env.ctx (ev env k') k' pf args S = some r := by
  unfold bodyO at h
  simp only [resO_eq] at h
  split at h
  · cases h
  · rename_i x σ S' e hne hs
    obtain ⟨k, hk⟩ := code_lim _ _ _ hs
    refine ⟨k, fun k' hk' => ?_⟩
    unfold runBody
    have := hk k' hk'
    simp only [real] at this
    rw [this]
    cases x with
    | normal => exact h
    | exit i => exact absurd rfl (hne i)
    | ret => exact h
  · cases h

/-- Once more, each loop behind a name. -/
noncomputable def codeL (lp : Nat → St → Option (Ex × St)) (ctx : Ctx) (call : Call') (fr : Fr) : PC → St → Option (Ex × St)
  | .skip, s => some (.normal, s)
  | .region ops, s =>
    match opsO o ctx call fr ops s.1 s.2.1 s.2.2 with
    | some s' => some (.normal, s')
    | none => none
  | .draw hd tl, s =>
    match headO o ctx call fr s.2.1 hd s.1 with
    | some σ =>
      match opsO o ctx call fr tl σ s.2.1 s.2.2 with
      | some s' => some (.normal, s')
      | none => none
    | none => none
  | .drawC _ _, _ => none
  | .seq a b, s =>
    match codeL lp ctx call fr a s with
    | some (.normal, s') => codeL lp ctx call fr b s'
    | r => r
  | .cond c a b, s =>
    match opd s.1 c with
    | .bool t => if t then codeL lp ctx call fr a s else codeL lp ctx call fr b s
    | _ => none
  | .block id (.loop _), s =>
    match lp id s with
    | some (.exit i, s') => some (if i = id then .normal else .exit i, s')
    | r => r
  | .block id c, s =>
    match codeL lp ctx call fr c s with
    | some (.exit i, s') => some (if i = id then .normal else .exit i, s')
    | r => r
  | .loop _, _ => none
  | .exit id, s => some (.exit id, s)
  | .ret, s => some (.ret, s)

/-- The loops, each with its number. -/
def loopsOf : PC → List (Nat × PC)
  | .seq a b => loopsOf a ++ loopsOf b
  | .cond _ a b => loopsOf a ++ loopsOf b
  | .block id (.loop c) => (id, c) :: loopsOf c
  | .block _ c => loopsOf c
  | _ => []

theorem codeL_ok {lp : Nat → St → Option (Ex × St)} {ctx : Ctx} {call : Call'} {fr : Fr} : ∀ (c : PC), (∀ p ∈ loopsOf c, lp p.1 = o.loop (codeO o ctx call fr p.2)) →
    ∀ (s : St) (r : Ex × St), codeL o lp ctx call fr c s = some r → codeO o ctx call fr c s = some r
  | .skip, _, _, _, h => h
  | .region _, _, _, _, h => h
  | .draw _ _, _, _, _, h => h
  | .drawC _ _, _, _, _, h => by cases h
  | .seq a b, hl, s, r, h => by
    simp only [codeL] at h
    have ha := codeL_ok a (fun p hp => hl p (by simp [loopsOf, hp]))
    have hb := codeL_ok b (fun p hp => hl p (by simp [loopsOf, hp]))
    simp only [codeO]
    split at h
    · rename_i s' hs
      rw [ha s _ hs]; exact hb s' r h
    · rename_i hne
      rw [ha s _ h]
      obtain ⟨x, s'⟩ := r
      cases x with
      | normal => exact absurd h (hne _)
      | exit i => rfl
      | ret => rfl
  | .cond c a b, hl, s, r, h => by
    simp only [codeL] at h
    have ha := codeL_ok a (fun p hp => hl p (by simp [loopsOf, hp]))
    have hb := codeL_ok b (fun p hp => hl p (by simp [loopsOf, hp]))
    simp only [codeO]
    split at h
    · rename_i t ht
      cases t with
      | true => exact ha s r h
      | false => exact hb s r h
    · cases h
  | .block id (.loop c), hl, s, r, h => by
    simp only [codeL] at h
    rw [hl (id, c) (by simp [loopsOf])] at h
    simp only [codeO]
    exact h
  | .block id .skip, hl, s, r, h => by simpa only [codeL, codeO] using h
  | .block id (.region a), hl, s, r, h => by simpa only [codeL, codeO] using h
  | .block id (.draw a b), hl, s, r, h => by simpa only [codeL, codeO] using h
  | .block id (.drawC a b), hl, s, r, h => by simp [codeL] at h
  | .block id (.exit a), hl, s, r, h => by simpa only [codeL, codeO] using h
  | .block id .ret, hl, s, r, h => by simpa only [codeL, codeO] using h
  | .block id (.seq a b), hl, s, r, h => by
    rw [codeL] at h
    · rw [codeO]
      have hc := codeL_ok (.seq a b) (fun p hp => hl p (by simpa only [loopsOf] using hp))
      split at h
      · rename_i i s' hs; rw [hc s _ hs]; exact h
      · rename_i hne
        rw [hc s _ h]
        obtain ⟨x, s'⟩ := r
        cases x with
        | normal => rfl
        | exit i => exact absurd h (hne _ _)
        | ret => rfl
    · intro c hc; cases hc
  | .block id (.cond x a b), hl, s, r, h => by
    rw [codeL] at h
    · rw [codeO]
      have hc := codeL_ok (.cond x a b) (fun p hp => hl p (by simpa only [loopsOf] using hp))
      split at h
      · rename_i i s' hs; rw [hc s _ hs]; exact h
      · rename_i hne
        rw [hc s _ h]
        obtain ⟨x, s'⟩ := r
        cases x with
        | normal => rfl
        | exit i => exact absurd h (hne _ _)
        | ret => rfl
    · intro c hc; cases hc
  | .block id (.block j a), hl, s, r, h => by
    rw [codeL] at h
    · rw [codeO]
      have hc := codeL_ok (.block j a) (fun p hp => hl p (by simpa only [loopsOf] using hp))
      split at h
      · rename_i i s' hs; rw [hc s _ hs]; exact h
      · rename_i hne
        rw [hc s _ h]
        obtain ⟨x, s'⟩ := r
        cases x with
        | normal => rfl
        | exit i => exact absurd h (hne _ _)
        | ret => rfl
    · intro c hc; cases hc
  | .loop _, _, _, _, h => by simp only [codeL] at h; cases h
  | .exit _, _, _, _, h => h
  | .ret, _, _, _, h => h

noncomputable def bodyL (lp : Nat → St → Option (Ex × St)) (ctx : Ctx) (call : Call') (pf : PFn) (args : List PV) (S : List SObj) : Option (PV × List SObj × Bool) :=
  match codeL o lp ctx call ⟨pf.ntmps, o.sn S⟩ pf.body (fun i => args.getD i (.tup []), S, false) with
  | some (.exit _, _) => none
  | some (_, (σ, S', e)) =>
    match resO o ctx S' σ pf.results with
    | some vs => some (tupled vs, S', e)
    | none => none
  | none => none

theorem bodyL_ok {lp : Nat → St → Option (Ex × St)} {ctx : Ctx} {call : Call'} {pf : PFn} {args : List PV} {S : List SObj} {r : PV × List SObj × Bool}
    (hl : ∀ p ∈ loopsOf pf.body, lp p.1 = o.loop (codeO o ctx call ⟨pf.ntmps, o.sn S⟩ p.2)) (h : bodyL o lp ctx call pf args S = some r) : bodyO o ctx call pf args S = some r := by
  unfold bodyL at h
  unfold bodyO
  split at h
  · cases h
  · rename_i x σ S' e hne hs
    rw [codeL_ok o _ hl _ _ hs]
    cases x with
    | normal => exact h
    | exit i => exact absurd rfl (hne i)
    | ret => exact h
  · cases h

/-- The store's operations shown. -/
def semi (o : Prim) : Prim := { o with
  sn := fun S => S.length, sget := fun S i => S[i]?, sset := fun S i x => S.set i x, spush := fun S x => S ++ [x]
  or := fun a b => a || b, nlen := fun n => n }

theorem semi_real : semi real = real := rfl

/-- The loops are what they are. -/
def LpOk (o : Prim) (lp : Nat → St → Option (Ex × St)) (ctx : Ctx) (call : Call') (fr : Fr) (l : List (Nat × PC)) : Prop :=
  ∀ p ∈ l, lp p.1 = o.loop (codeO o ctx call fr p.2)

noncomputable def lpOf (o : Prim) (ctx : Ctx) (call : Call') (fr : Fr) : List (Nat × PC) → Nat → St → Option (Ex × St)
  | [], _ => fun _ => none
  | p :: l, i => if p.1 = i then o.loop (codeO o ctx call fr p.2) else lpOf o ctx call fr l i

def uniq : List Nat → Bool
  | [] => true
  | x :: l => !l.contains x && uniq l

theorem lpOf_ok (o : Prim) (ctx : Ctx) (call : Call') (fr : Fr) : ∀ (l : List (Nat × PC)), uniq (l.map (·.1)) = true → LpOk o (lpOf o ctx call fr l) ctx call fr l
  | [], _ => fun p hp => by cases hp
  | q :: l, h => fun p hp => by
    simp only [List.map_cons, uniq, Bool.and_eq_true, Bool.not_eq_true'] at h
    rcases List.mem_cons.1 hp with rfl | hp
    · simp [lpOf]
    · have hne : q.1 ≠ p.1 := by
        intro he
        have : (l.map (·.1)).contains q.1 = true := by
          rw [List.contains_iff_mem, he]; exact List.mem_map_of_mem hp
        rw [this] at h; exact absurd h.1 (by simp)
      simp only [lpOf, if_neg hne]
      exact lpOf_ok o ctx call fr l h.2 p hp

theorem lp_more {lp : Nat → St → Option (Ex × St)} {ctx : Ctx} {call : Call'} {fr : Fr} {id : Nat} {c : PC} (h0 : lp id = real.loop (codeO real ctx call fr c))
    (hl : LpOk real lp ctx call fr (loopsOf c)) {s s' : St} {r : Ex × St} (h : codeL real lp ctx call fr c s = some (.normal, s')) (h2 : lp id s' = some r) : lp id s = some r := by
  rw [h0] at h2 ⊢
  exact loopw_more (codeL_ok real c hl s _ h) h2

theorem lp_exit {lp : Nat → St → Option (Ex × St)} {ctx : Ctx} {call : Call'} {fr : Fr} {id : Nat} {c : PC} (h0 : lp id = real.loop (codeO real ctx call fr c))
    (hl : LpOk real lp ctx call fr (loopsOf c)) {s s' : St} {i : Nat} (h : codeL real lp ctx call fr c s = some (.exit i, s')) : lp id s = some (.exit i, s') := by
  rw [h0]
  exact loopw_exit (codeL_ok real c hl s _ h)

theorem lp_ret {lp : Nat → St → Option (Ex × St)} {ctx : Ctx} {call : Call'} {fr : Fr} {id : Nat} {c : PC} (h0 : lp id = real.loop (codeO real ctx call fr c))
    (hl : LpOk real lp ctx call fr (loopsOf c)) {s s' : St} (h : codeL real lp ctx call fr c s = some (.ret, s')) : lp id s = some (.ret, s') := by
  rw [h0]
  exact loopw_ret (codeL_ok real c hl s _ h)

/-- Slots that are known. -/
def Known (l : List (Nat × PV)) (σ : Nat → PV) : Prop := ∀ p ∈ l, σ p.1 = p.2

def put : List (Nat × PV) → (Nat → PV) → Nat → PV
  | [], σ => σ
  | p :: l, σ => fun i => if i = p.1 then p.2 else put l σ i

theorem put_known {σ : Nat → PV} : ∀ {l : List (Nat × PV)}, Known l σ → put l σ = σ
  | [], _ => rfl
  | p :: l, h => by
    funext i
    simp only [put, put_known (fun q hq => h q (List.mem_cons_of_mem _ hq))]
    split
    · rename_i he; rw [he]; exact (h p List.mem_cons_self).symm
    · rfl

theorem known_nil {σ : Nat → PV} : Known [] σ := fun p hp => by cases hp
theorem known_cons {σ : Nat → PV} {i : Nat} {v : PV} {l : List (Nat × PV)} (h : σ i = v) (hl : Known l σ) : Known ((i, v) :: l) σ := fun p hp => by
  rcases List.mem_cons.1 hp with rfl | hp
  · exact h
  · exact hl p hp

/-- A call that the store plays no part in. -/
theorem evw_pure {env : Env} {f : FuncId} {pf : PFn} (hi : env.intr f = none) (hf : env.fn f = some pf) {args bs : List PV} {S : List SObj} {v v' : PV}
    (ha : args.map PV.strip = bs) (hl : bs.length ≤ pf.ntmps) (hc : cleanL bs = true) (hv : v.strip = v') (hvc : v'.clean = true)
    (hu : uniq ((loopsOf pf.body).map (·.1)) = true)
    (h : ∀ o lp, o = real → LpOk real lp env.ctx (evw env) ⟨pf.ntmps, 0⟩ (loopsOf pf.body) → (bodyL (semi o) lp env.ctx (evw env) pf bs []).map (·.1) = some v) : evw env f args S = some (v', S, false) := by
  have hlp := lpOf_ok real env.ctx (evw env) ⟨pf.ntmps, 0⟩ _ hu
  have h := h real _ rfl hlp
  rw [semi_real] at h
  cases hb' : bodyL real (lpOf real env.ctx (evw env) ⟨pf.ntmps, 0⟩ (loopsOf pf.body)) env.ctx (evw env) pf bs [] with
  | none => rw [hb'] at h; cases h
  | some r =>
    rw [hb'] at h
    have hb := bodyL_ok (pf := pf) (S := []) real (by exact hlp) hb'
    obtain ⟨w, S1, e1⟩ := r
    injection h with h
    simp only at h
    subst h
    obtain ⟨k, hk⟩ := body_lim hb
    refine lim_of (k + 1) fun k' hk' => ?_
    obtain ⟨j, rfl⟩ : ∃ j, k' = j + 1 := ⟨k' - 1, by omega⟩
    have hl' : args.length ≤ pf.ntmps := by rw [← ha] at hl; simpa using hl
    simp only [ev, hi, hf, hl', if_true, ha, hc, hk j (by omega), hv, hvc]

/-- A call that the store plays a part in. -/
theorem evw_store {env : Env} {f : FuncId} {pf : PFn} (hi : env.intr f = none) (hf : env.fn f = some pf) {args : List PV} {S S' : List SObj} {v : PV} {e : Bool}
    (hl : args.length ≤ pf.ntmps) (hc : cleanL (args.map PV.strip) = false)
    (hu : uniq ((loopsOf pf.body).map (·.1)) = true)
    (h : ∀ o lp, o = real → LpOk real lp env.ctx (evw env) ⟨pf.ntmps, S.length⟩ (loopsOf pf.body) → bodyL o lp env.ctx (evw env) pf args S = some (v, S', e)) : evw env f args S = some (leave S.length v S' e) := by
  have hlp := lpOf_ok real env.ctx (evw env) ⟨pf.ntmps, S.length⟩ _ hu
  have hb := bodyL_ok (pf := pf) (S := S) real (by exact hlp) (h real _ rfl hlp)
  obtain ⟨k, hk⟩ := body_lim hb
  refine lim_of (k + 1) fun k' hk' => ?_
  obtain ⟨j, rfl⟩ : ∃ j, k' = j + 1 := ⟨k' - 1, by omega⟩
  simp only [ev, hi, hf, hl, if_true, hc, hk j (by omega), Bool.false_eq_true, if_false]

theorem evw_of {env : Env} {f : FuncId} {args : List PV} {S : List SObj} {r : PV × List SObj × Bool} (h : evw env f args S = some r) : ∃ k, ev env k f args S = some r := by
  obtain ⟨k, hk⟩ := of_lim h
  exact ⟨k, hk k (Nat.le_refl _)⟩
end Go.Pam
