/- The abstract machine's steps, regions, bodies, calls. -/
import Derived.Test.YthkjepoaddfoiaaPam4
namespace Go.Pam
set_option linter.unusedVariables false
set_option linter.unusedSimpArgs false

abbrev Call' := FuncId → List PV → List SObj → Option (PV × List SObj × Bool)

def placesOf (ctx : Ctx) : List Field → Option (List (Nat × Nat))
  | [] => some []
  | f :: fs => match ctx.ty f.type, placesOf ctx fs with
    | some fi, some l => some ((f.offset, fi.size) :: l)
    | _, _ => none

def buildPV (ctx : Ctx) (t : TypeId) (parts : List (Nat × PV)) : Option PV :=
  match ctx.ty t with
  | none => none
  | some ti =>
    if ti.zero.storable = false then none else
    match ti.und with
    | .struct fs => match placesOf ctx fs.toList with
      | some pl => (fillPV (fun i => pl[i]?) ti.zero.cells parts).map .agg
      | none => none
    | .array _ e => match ctx.ty e with
      | some ei => (fillPV (fun i => some (i * ei.size, ei.size)) ti.zero.cells parts).map .agg
      | none => none
    | _ => none

def setParts (size : Nat) (xs : List PV) : List (Nat × PV) → Option (List PV)
  | [] => some xs
  | (i, v) :: rest => if v.storable = true ∧ v.cells.length = size ∧ i < xs.length then setParts size (xs.set i v.strip) rest else none

def buildSlicePV (ctx : Ctx) (t : TypeId) (len : Nat) (parts : List (Nat × PV)) : Option PV :=
  match ctx.ty t with
  | none => none
  | some ti =>
    match ti.und with
    | .slice e => match ctx.ty e with
      | some ei => if len * ei.size ≤ 2 ^ 24 ∧ ei.size ≠ 0 ∧ ei.zero.cells.length = ei.size ∧ ei.zero.storable = true then (setParts ei.size (List.replicate len ei.zero) parts).map (.lst · .full) else none
      | none => none
    | _ => none

def makeSlicePV (ctx : Ctx) (t : TypeId) (l c : PV) (S : List SObj) : Option (PV × List SObj) :=
  match ctx.ty t, l, c with
  | some ti, .int _ n, .int _ m =>
    match ti.und with
    | .slice e => match ctx.ty e with
      | some ei => if 0 ≤ n ∧ n = m ∧ ei.bytes * n ≤ 2 ^ 47 ∧ n ≤ 2 ^ 62 ∧ ei.size ≠ 0 ∧ ei.zero.cells.length = ei.size ∧ ei.zero.storable = true then some (.lst (List.replicate n.toNat ei.zero) .full, S) else none
      | none => none
    | _ => none
  | _, _, _ => none

def assertPV (ctx : Ctx) (x : PV) (t : TypeId) (ok : Bool) : Option PV :=
  match ctx.ty t with
  | none => none
  | some ti =>
    match ti.und, x with
    | .interface _, _ => none
    | _, .nili => if ok then some (.tup [ti.zero, .bool false]) else none
    | _, .ifc u v => if u = t then some (if ok then .tup [v, .bool true] else v) else if ok then some (.tup [ti.zero, .bool false]) else none
    | _, _ => none

def methodPV (ctx : Ctx) (x : PV) (name : String) : Option (FuncId × PV) :=
  match x with
  | .ifc t v =>
    match ctx.ty t with
    | none => none
    | some ti =>
      match ti.methods.find? (·.name == name) with
      | none => none
      | some m =>
        if m.path.isEmpty then
          match m.func, ti.und with
          | some (f, true), .pointer _ => some (f, v)
          | some (_, false), .pointer _ => none
          | some (f, false), _ => some (f, v)
          | _, _ => none
        else none
  | _ => none

def callPV (ctx : Ctx) (call : Call') (σ : Nat → PV) (S : List SObj) (c : Go.Call) : Option (PV × List SObj × Bool) :=
  match c.callee with
  | .builtin .len => match c.argTypes[0]?, c.args.toList.map (opd σ) with
    | some t, x :: _ => (lenPV ctx t x S).map fun n => (.int .i64 n, S, false)
    | _, _ => none
  | .builtin .append => match c.args.toList.map (opd σ) with
    | s :: x :: _ => (appendPV ctx c.argTypes s x S).map fun (v, S') => (v, S', false)
    | _ => none
  | .builtin .min => (minmax false (c.args.toList.map (opd σ))).map fun v => (v, S, false)
  | .builtin .max => (minmax true (c.args.toList.map (opd σ))).map fun v => (v, S, false)
  | .builtin _ => none
  | .value f => match opd σ f with
    | .fn (.func f) [] cap => call f (c.args.toList.map (opd σ) ++ cap) S
    | _ => none
  | .invoke r name => match methodPV ctx (opd σ r) name with
    | some (f, v) => call f (v :: c.args.toList.map (opd σ)) S
    | none => none

def evStep (ctx : Ctx) (call : Call') (base : Nat) (σ : Nat → PV) (S : List SObj) (op : Op) : Option (PV × List SObj × Bool) :=
  match op with
  | .move x => some (opd σ x, S, false)
  | .assign x => some (opd σ x, S, false)
  | .pick c a b => match opd σ c with
    | .bool t => some (if t then opd σ a else opd σ b, S, false)
    | _ => none
  | .alloc t => match ctx.ty t with
    | some ti => if ti.zero.storable then some (.ptr S.length 0, S ++ [.cells ti.zero.cells], false) else none
    | none => none
  | .box _ x => if (opd σ x).storable then some (.ptr S.length 0, S ++ [.cells (opd σ x).cells], false) else none
  | .build t ps => (buildPV ctx t (ps.toList.map fun p => (p.1, opd σ p.2))).map fun v => (v, S, false)
  | .buildSlice t n ps => (buildSlicePV ctx t n (ps.toList.map fun p => (p.1, opd σ p.2))).map fun v => (v, S, false)
  | .load t a => (loadPV ctx t (opd σ a) S).map fun v => (v, S, false)
  | .store t a x => (storePV ctx base t (opd σ a) (opd σ x) S).map fun (S', e) => (.tup [], S', e)
  | .nilCheck x => match opd σ x with
    | .ptr i o => some (.ptr i o, S, false)
    | .iptr cs o => some (.iptr cs o, S, false)
    | .ifc t v => some (.ifc t v, S, false)
    | .fn (.func f) a b => some (.fn (.func f) a b, S, false)
    | _ => none
  | .binOp op t x y _ => (binPV ctx op t x y (opd σ x) (opd σ y)).map fun v => (v, S, false)
  | .unOp op _ x => (unPV op (opd σ x)).map fun v => (v, S, false)
  | .convert s d x => (convPV ctx s d (opd σ x) S).map fun (v, S') => (v, S', false)
  | .makeInterface t x => match ctx.ty t with
    | some ti => match ti.und with
      | .interface _ => none
      | _ => some (.ifc t (opd σ x), S, false)
    | none => none
  | .makeFunc f as bs => some (.fn f (as.toList.map (opd σ)) (bs.toList.map (opd σ)), S, false)
  | .makeSlice t l c => (makeSlicePV ctx t (opd σ l) (opd σ c) S).map fun (v, S') => (v, S', false)
  | .slice t x lo hi mx => (slicePV ctx t (opd σ x) (lo.map (opd σ)) (hi.map (opd σ)) (mx.map (opd σ))).map fun v => (v, S, false)
  | .fieldAddr t x i => (fieldAddrPV ctx t (opd σ x) i).map fun v => (v, S, false)
  | .field t x i => match fieldsOf ctx t, opd σ x with
    | some fs, .agg cs => match fs[i]? with
      | some f => (partOf ctx f.type cs f.offset).map fun v => (v, S, false)
      | none => none
    | _, _ => none
  | .indexAddr t x i => match opd σ i with
    | .int _ n => (indexAddrPV ctx t (opd σ x) n).map fun v => (v, S, false)
    | _ => none
  | .index t x i => match opd σ i with
    | .int _ n => (indexPV ctx t (opd σ x) n).map fun v => (v, S, false)
    | _ => none
  | .typeAssert x _ t ok => (assertPV ctx (opd σ x) t ok).map fun v => (v, S, false)
  | .extract x i => match opd σ x with
    | .tup vs => (vs[i]?).map fun v => (v, S, false)
    | _ => none
  | .call c => callPV ctx call σ S c
  | _ => none

/-! Are two values the same? -/
mutual
def PV.same : PV → PV → Bool
  | .poison, .poison => true
  | .bool a, .bool b => a == b
  | .int k a, .int l b => k == l && a == b
  | .str a, .str b => a == b
  | .nilp, .nilp => true
  | .ptr a b, .ptr c d => a == c && b == d
  | .iptr a b, .iptr c d => sameL a c && b == d
  | .nils, .nils => true
  | .lst a s, .lst b t => sameL a b && s == t
  | .hsl a b c, .hsl d e f => a == d && b == e && c == f
  | .emp, .emp => true
  | .rsl a b, .rsl c d => a == c && b == d
  | .nilm, .nilm => true
  | .map a, .map b => a == b
  | .nilf, .nilf => true
  | .fn f a b, .fn g c d => f == g && sameL a c && sameL b d
  | .nili, .nili => true
  | .ifc t a, .ifc u b => t == u && PV.same a b
  | .agg a, .agg b => sameL a b
  | .tup a, .tup b => sameL a b
  | _, _ => false
  termination_by structural x => x
def sameL : List PV → List PV → Bool
  | [], [] => true
  | x :: xs, y :: ys => PV.same x y && sameL xs ys
  | _, _ => false
  termination_by structural xs => xs
end

abbrev sameL0 := sameL

def birthPV (ctx : Ctx) (σ : Nat → PV) (S : List SObj) (op : Op) : Option (PV × List SObj) :=
  match op with
  | .makeSlice t l c => match ctx.ty t, opd σ l, opd σ c with
    | some ti, .int _ n, .int _ m => match ti.und with
      | .slice e => match ctx.ty e with
        | some ei => if 0 ≤ n ∧ n ≤ m ∧ ei.bytes * m ≤ 2 ^ 47 ∧ m ≤ 2 ^ 62 ∧ ei.size ≠ 0 ∧ ei.zero.cells.length = ei.size ∧ ei.zero.storable = true then
            some (.rsl S.length n.toNat, S ++ [.row (List.replicate n.toNat ei.zero) ei.size false]) else none
        | none => none
      | _ => none
    | _, _, _ => none
  | .alloc t => match ctx.ty t with
    | some ti => match ti.und with
      | .array n e => match ctx.ty e with
        | some ei => if sameL0 ti.zero.cells ((List.replicate n ei.zero).flatMap PV.cells) = true ∧ ei.zero.cells.length = ei.size ∧ ti.zero.storable = true then
            some (.ptr S.length 0, S ++ [.row (List.replicate n ei.zero) ei.size false]) else none
        | none => none
      | .struct _ => if PV.same ti.zero (.agg [.nilp, .nils]) = true then some (.ptr S.length 0, S ++ [.bld t false none]) else none
      | _ => none
    | none => none
  | .buildSlice t n ps => match ctx.ty t with
    | some ti => match ti.und with
      | .slice e => match ctx.ty e, buildSlicePV ctx t n (ps.toList.map fun p => (p.1, opd σ p.2)) with
        | some ei, some (.lst xs .full) => some (.rsl S.length xs.length, S ++ [.row xs ei.size false])
        | _, _ => none
      | _ => none
    | none => none
  | .convert s d x => match convPV ctx s d (opd σ x) S with
    | some (.lst xs (.tip _), _) => some (.rsl S.length xs.length, S ++ [.row xs 1 false])
    | _ => none
  | .call c => match c.callee, c.args.toList.map (opd σ) with
    | .builtin .append, s :: x :: _ => match s with
      | .nils => match listOf x with
        | some [] => appendPV ctx c.argTypes .nils x S
        | _ => bornApp ctx c.argTypes x S
      | .emp => match listOf x with
        | some [] => appendPV ctx c.argTypes .emp x S
        | _ => bornApp ctx c.argTypes x S
      | _ => appendPV ctx c.argTypes s x S
    | _, _ => none
  | _ => none
  where
  bornApp (ctx : Ctx) (ts : Array TypeId) (x : PV) (S : List SObj) : Option (PV × List SObj) :=
    match appendPV ctx ts .nils x S with
    | some (.lst xs (.tip _), S1) => match S1[S.length]? with
      | some (.tip _ sz) => some (.rsl S.length xs.length, S ++ [.row xs sz false])
      | _ => none
    | _ => none

/-! The text of a body, as the machine has it -/
structure POp where
  dst : Option Nat
  op : Op
  guard : Option (Nat × Bool)
  /-- What it makes may be written to. -/
  wr : Bool := false

def evStepF (ctx : Ctx) (call : Call') (base : Nat) (σ : Nat → PV) (S : List SObj) (p : POp) : Option (PV × List SObj × Bool) :=
  let (σ1, S1) := frzT (frzArgs ctx σ p.op) σ S
  if p.wr then (birthPV ctx σ1 S1 p.op).map fun (v, S') => (v, S', false) else evStep ctx call base σ1 S1 p.op

inductive PC where
  | skip
  | region (ops : List POp)
  | draw (head tail : List POp)
  | drawC (head tail : List POp)
  | seq (a b : PC)
  | cond (c : Operand) (a b : PC)
  | block (id : Nat) (a : PC)
  | loop (a : PC)
  | exit (id : Nat)
  | ret

def wrOf (m : List Nat) (o : Oper) : Bool := match o.dst with
  | some t => m.contains (1000000 + t)
  | none => false

def popOf (m : List Nat) (ops : Array Oper) (o : Oper) : Option POp :=
  match o.guard with
  | none => some ⟨o.dst, o.op, none, wrOf m o⟩
  | some (j, want) => match (ops[j]?).bind (·.dst) with
    | some t => some ⟨o.dst, o.op, some (t, want), wrOf m o⟩
    | none => none

def popsOf (m : List Nat) (ops : Array Oper) : List Oper → Option (List POp)
  | [] => some []
  | o :: l => match popOf m ops o, popsOf m ops l with
    | some p, some r => some (p :: r)
    | _, _ => none

def aheadOf : List Oper → List Nat → List Nat
  | [], acc => acc
  | o :: l, acc => aheadOf l (acc ++ [o.after.toList.foldl (fun s e => if Region.binds .any e then s ||| 2 ^ e.on ||| acc.getD e.on 0 else s) 0])

def POp.looks (p : POp) : List Nat :=
  p.op.operands.toList.filterMap (fun | .tmp t => some t | _ => none) ++ (match p.guard with | some (t, _) => [t] | none => [])

def drawOk (ops : List Oper) (ps : List POp) (n : Nat) : Bool :=
  let b := aheadOf ops []
  n ≤ ps.length &&
  (ops.zipIdx.all fun (o, i) => o.after.toList.all fun e => !Region.binds .any e || decide (e.on < i)) &&
  ((ps.take n).zipIdx.all fun (p, i) => (ps.take n).zipIdx.all fun (q, j) =>
    i == j || (p.dst.isNone || p.dst != q.dst) && (match q.dst with | some t => !p.looks.contains t || (b.getD i 0).testBit j | none => true)) &&
  ((List.range ps.length).all fun m => decide (m < n) || (List.range m).all fun j => (b.getD m 0).testBit j)

def tailFrom (ops : List Oper) : Nat :=
  let b := aheadOf ops []
  (List.range ops.length).foldl (fun n m => if (List.range m).all (fun j => (b.getD m 0).testBit j) then n else m + 1) 0

def chainedOp : Op → Bool
  | .call c => match c.callee with
    | .value _ => true
    | .invoke _ _ => true
    | .builtin .append => true
    | .builtin _ => false
  | .store _ _ _ => true
  | .alloc _ => true
  | .box _ _ => true
  | _ => false

def chained (p : POp) : Bool := p.wr || chainedOp p.op

def indepOp (σ : Nat → PV) : Op → Bool
  | .load _ a => match opd σ a with
    | .iptr _ _ => true
    | _ => false
  | .call c => match c.callee with
    | .builtin .len => match c.args.toList.map (opd σ) with
      | .map _ :: _ => false
      | _ => true
    | .builtin .min => true
    | .builtin .max => true
    | _ => false
  | .store _ _ _ => false
  | .alloc _ => false
  | .box _ _ => false
  | _ => true

def notRow : PV → Bool
  | .rsl _ _ => false
  | _ => true

def indep (ctx : Ctx) (σ : Nat → PV) (p : POp) : Bool :=
  !p.wr && indepOp (frzT (frzArgs ctx σ p.op) σ []).1 p.op && (frzArgs ctx σ p.op).all fun x => notRow (opd σ x)

def chainOk (ops : List Oper) (ps : List POp) (n : Nat) : Bool :=
  let b := aheadOf ops []
  (ps.take n).zipIdx.all fun (p, i) => (ps.take n).zipIdx.all fun (q, j) => !(chained p && chained q && decide (j < i)) || (b.getD i 0).testBit j

def compile (m : List Nat) : Code → Option PC
  | .skip => some .skip
  | .label _ => some .skip
  | .region _ ops false => (popsOf m ops ops.toList).map .region
  | .region id ops true => match popsOf m ops ops.toList with
    | some ps => if drawOk ops.toList ps (tailFrom ops.toList) then
        (if m.contains id then (if chainOk ops.toList ps (tailFrom ops.toList) then some (.drawC (ps.take (tailFrom ops.toList)) (ps.drop (tailFrom ops.toList))) else none)
        else some (.draw (ps.take (tailFrom ops.toList)) (ps.drop (tailFrom ops.toList)))) else none
    | none => none
  | .seq a b => match compile m a, compile m b with
    | some x, some y => some (.seq x y)
    | _, _ => none
  | .cond c a b => match compile m a, compile m b with
    | some x, some y => some (.cond c x y)
    | _, _ => none
  | .block id a => (compile m a).map (.block id)
  | .loop a => (compile m a).map .loop
  | .exit id => some (.exit id)
  | .ret => some .ret
  | _ => none

def wantedPV (σ : Nat → PV) : Option (Nat × Bool) → Option Bool
  | none => some true
  | some (t, want) =>
    match σ t with
    | .bool b => some (b == want)
    | .tup [] => some false
    | _ => none

structure Fr where
  ntmps : Nat
  base : Nat

def dstOk (n : Nat) : Option Nat → Bool
  | some d => decide (d < n)
  | none => true

def evOps (ctx : Ctx) (call : Call') (fr : Fr) : List POp → (Nat → PV) → List SObj → Bool → Option ((Nat → PV) × List SObj × Bool)
  | [], σ, S, e => some (σ, S, e)
  | o :: rest, σ, S, e =>
    if dstOk fr.ntmps o.dst then
      match wantedPV σ o.guard with
      | none => none
      | some false => evOps ctx call fr rest (upd σ o.dst (.tup [])) S e
      | some true =>
        match evStepF ctx call fr.base σ S o with
        | none => none
        | some (v, S', e') => evOps ctx call fr rest (upd σ o.dst v) S' (e || e')
    else none

/-! Is the store as it was? (stores) -/
def sameKV : List (PV × PV) → List (PV × PV) → Bool
  | [], [] => true
  | x :: xs, y :: ys => PV.same x.1 y.1 && PV.same x.2 y.2 && sameKV xs ys
  | _, _ => false

def SObj.same : SObj → SObj → Bool
  | .cells a, .cells b => sameL a b
  | .map a, .map b => sameKV a b
  | .tip a b, .tip c d => a == c && b == d
  | .dead, .dead => true
  | .row a b c, .row d e f => sameL a d && b == e && c == f
  | .bld a b c, .bld d e f => a == d && b == e && c == f
  | .buf a b, .buf c d => a == c && b == d
  | _, _ => false

def sameS : List SObj → List SObj → Bool
  | [], [] => true
  | x :: xs, y :: ys => SObj.same x y && sameS xs ys
  | _, _ => false

def evHead (ctx : Ctx) (call : Call') (fr : Fr) (S : List SObj) : List POp → (Nat → PV) → Option (Nat → PV)
  | [], σ => some σ
  | o :: rest, σ =>
    if dstOk fr.ntmps o.dst then
      match wantedPV σ o.guard with
      | none => none
      | some false => evHead ctx call fr S rest (upd σ o.dst (.tup []))
      | some true =>
        match evStepF ctx call fr.base σ S o with
        | none => none
        | some (v, S', e') => if sameS S' S && !e' then evHead ctx call fr S rest (upd σ o.dst v) else none
    else none

def loadOf (σ : Nat → PV) : Op → Option (TypeId × PV)
  | .load t a => some (t, opd σ a)
  | _ => none

def PendOk (ctx : Ctx) (pend : List (TypeId × PV × PV)) (S : List SObj) : Prop := ∀ q ∈ pend, loadPV ctx q.1 q.2.1 S = some q.2.2

open Classical in
noncomputable def evChain (ctx : Ctx) (call : Call') (fr : Fr) : List POp → List (List SObj) → List (TypeId × PV × PV) → (Nat → PV) → List SObj → Bool → Option ((Nat → PV) × List SObj × Bool)
  | [], _, _, σ, S, e => some (σ, S, e)
  | o :: rest, hist, pend, σ, S, e =>
    if dstOk fr.ntmps o.dst then
      match wantedPV σ o.guard with
      | none => none
      | some false => evChain ctx call fr rest hist pend (upd σ o.dst (.tup [])) S e
      | some true =>
        match evStepF ctx call fr.base σ S o with
        | none => none
        | some (v, S', e') =>
          if chained o then (if PendOk ctx pend S' then evChain ctx call fr rest (S :: hist) pend (upd σ o.dst v) S' (e || e') else none)
          else if sameS S' S && !e' then
            if indep ctx σ o then evChain ctx call fr rest hist pend (upd σ o.dst v) S e
            else match loadOf σ o.op with
              | some (t, a) => if ∀ T ∈ hist, loadPV ctx t a T = some v then evChain ctx call fr rest hist ((t, a, v) :: pend) (upd σ o.dst v) S e else none
              | none => none
          else none
    else none

inductive Ex where
  | normal
  | exit (id : Nat)
  | ret

abbrev St := (Nat → PV) × List SObj × Bool

def rounds (body : St → Option (Ex × St)) : Nat → St → Option (Ex × St)
  | 0, _ => none
  | k + 1, s =>
    match body s with
    | none => none
    | some (.normal, s') => rounds body k s'
    | some (x, s') => some (x, s')

noncomputable def evCode (ctx : Ctx) (call : Call') (fr : Fr) (k : Nat) : PC → St → Option (Ex × St)
  | .skip, s => some (.normal, s)
  | .region ops, s =>
    match evOps ctx call fr ops s.1 s.2.1 s.2.2 with
    | some s' => some (.normal, s')
    | none => none
  | .draw hd tl, s =>
    match evHead ctx call fr s.2.1 hd s.1 with
    | some σ =>
      match evOps ctx call fr tl σ s.2.1 s.2.2 with
      | some s' => some (.normal, s')
      | none => none
    | none => none
  | .drawC hd tl, s =>
    match evChain ctx call fr hd [] [] s.1 s.2.1 s.2.2 with
    | some s1 =>
      match evOps ctx call fr tl s1.1 s1.2.1 s1.2.2 with
      | some s' => some (.normal, s')
      | none => none
    | none => none
  | .seq a b, s =>
    match evCode ctx call fr k a s with
    | some (.normal, s') => evCode ctx call fr k b s'
    | r => r
  | .cond c a b, s =>
    match opd s.1 c with
    | .bool true => evCode ctx call fr k a s
    | .bool false => evCode ctx call fr k b s
    | _ => none
  | .block id c, s =>
    match evCode ctx call fr k c s with
    | some (.exit i, s') => some (if i = id then .normal else .exit i, s')
    | r => r
  | .loop c, s => rounds (evCode ctx call fr k c) k s
  | .exit id, s => some (.exit id, s)
  | .ret, s => some (.ret, s)

structure PFn where
  ntmps : Nat
  results : List ResultVar
  body : PC
  /-- Are rows that may be written to handed on as such? -/
  raw : Bool := false

structure Env where
  ctx : Ctx
  fn : FuncId → Option PFn
  intr : FuncId → Option (List PV → List SObj → Option (PV × List SObj × Bool))

def resultOf (ctx : Ctx) (S : List SObj) (σ : Nat → PV) : ResultVar → Option PV
  | .tmp t => some (σ t)
  | .cell a t => loadPV ctx t (σ a) S

def resultsOf (ctx : Ctx) (S : List SObj) (σ : Nat → PV) : List ResultVar → Option (List PV)
  | [] => some []
  | r :: rs => match resultOf ctx S σ r, resultsOf ctx S σ rs with
    | some x, some xs => some (x :: xs)
    | _, _ => none

def tupled : List PV → PV
  | [x] => x
  | xs => .tup xs

def leave (base : Nat) (v : PV) (S : List SObj) (e : Bool) : PV × List SObj × Bool :=
  if e = false ∧ v.strip.clean = true then (v.strip, S.take base, false) else (v, S, e)

noncomputable def runBody (ctx : Ctx) (call : Call') (k : Nat) (pf : PFn) (args : List PV) (S : List SObj) : Option (PV × List SObj × Bool) :=
  match evCode ctx call ⟨pf.ntmps, S.length⟩ k pf.body (fun i => args.getD i (.tup []), S, false) with
  | some (.exit _, _) => none
  | some (_, (σ, S', e)) =>
    match resultsOf ctx S' σ pf.results with
    | some vs => if pf.raw then some (tupled vs, S', e) else some (tupled (frzL vs S').1, (frzL vs S').2, e)
    | none => none
  | none => none

noncomputable def ev (env : Env) : Nat → FuncId → List PV → List SObj → Option (PV × List SObj × Bool)
  | 0, _, _, _ => none
  | k + 1, f, args, S =>
    match env.intr f with
    | some h => h args S
    | none =>
      match env.fn f with
      | none => none
      | some pf =>
        if args.length ≤ pf.ntmps then
          if cleanL (args.map PV.strip) then
            match runBody env.ctx (ev env k) k pf (args.map PV.strip) [] with
            | some (v, _, _) =>
              if v.strip.clean then some (v.strip, S, false) else
                match runBody env.ctx (ev env k) k pf args S with
                | some (v, S', e) => some (leave S.length v S' e)
                | none => none
            | none => none
          else
            match runBody env.ctx (ev env k) k pf args S with
            | some (v, S', e) => some (leave S.length v S' e)
            | none => none
        else none

end Go.Pam
