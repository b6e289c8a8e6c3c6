/- The abstract machine. -/
import Derived.Test.YthkjepoaddfoiaaPam3
namespace Go.Pam
set_option linter.unusedVariables false
set_option linter.unusedSimpArgs false

structure TyI where
  und : TypeDesc
  size : Nat
  bytes : Nat
  zero : PV
  /-- '==' at this type compares part by part. -/
  eqok : Bool
  /-- 'comparable' of the type's row. -/
  comp : Bool
  methods : List Method := []

def TyI.agg (t : TyI) : Bool := match t.und with
  | .struct _ | .array _ _ => true
  | _ => false

structure Ctx where
  ty : TypeId → Option TyI
  /-- Functions that may write to the slices that they are handed. -/
  byref : FuncId → Bool := fun _ => false

/-! Values of the program's text -/
def absV1 : Value → Option PV
  | .bool b => some (.bool b)
  | .int k n => some (.int k n)
  | .string s => some (.str s.data.toList)
  | .pointer none => some .nilp
  | .slice none 0 0 => some .nils
  | .map none => some .nilm
  | .nilFunc => some .nilf
  | .nilIface => some .nili
  | .func f as bs => if as.size = 0 ∧ bs.size = 0 then some (.fn f [] []) else none
  | _ => none
def absL (f : Value → Option PV) : List Value → Option (List PV)
  | [] => some []
  | v :: vs => match f v, absL f vs with
    | some x, some xs => some (x :: xs)
    | _, _ => none
def absV : Value → Option PV
  | .iface t v => (absV1 v).map (.ifc t)
  | .agg cs => (absL absV1 cs.toList).map .agg
  | .tuple cs => (absL absV1 cs.toList).map .tup
  | v => absV1 v

mutual
def PV.clean : PV → Bool
  | .ptr _ _ => false
  | .hsl _ _ _ => false
  | .rsl _ _ => false
  | .map _ => false
  | .iptr cs _ => cleanL cs
  | .lst xs t => (match t with | .tip _ => false | _ => true) && cleanL xs
  | .fn _ as bs => cleanL as && cleanL bs
  | .ifc _ v => v.clean
  | .agg cs => cleanL cs
  | .tup cs => cleanL cs
  | _ => true
  termination_by structural x => x
def cleanL : List PV → Bool
  | [] => true
  | x :: xs => x.clean && cleanL xs
  termination_by structural xs => xs
end

def PV.strip1 : PV → PV
  | .lst xs _ => .lst xs .none
  | v => v
def PV.strip2 : PV → PV
  | .lst xs _ => .lst xs .none
  | .agg cs => .agg (cs.map PV.strip1)
  | .ifc t v => .ifc t v.strip1
  | v => v
def PV.strip : PV → PV
  | .lst xs _ => .lst xs .none
  | .agg cs => .agg (cs.map PV.strip1)
  | .ifc t v => .ifc t v.strip2
  | .tup vs => .tup (vs.map PV.strip2)
  | v => v

def PV.storable : PV → Bool
  | .poison => false
  | .tup _ => false
  | _ => true

def opd (σ : Nat → PV) : Operand → PV
  | .tmp t => σ t
  | .const v => (absV v).getD .poison
  | .func f => .fn (.func f) [] []
  | .global _ => .poison

def upd (σ : Nat → PV) (d : Option Nat) (v : PV) : Nat → PV :=
  match d with
  | some d => fun i => if i = d then v else σ i
  | none => σ

/-! Numbers and texts -/
def bitsOf (op : BinOp) (k : IntKind) (x y : Int) : Option PV :=
  let a := BitVec.ofInt k.bits x
  let b := BitVec.ofInt k.bits y
  match op with
  | .and => some (.int k (k.wrap (a &&& b).toNat))
  | .or => some (.int k (k.wrap (a ||| b).toNat))
  | .xor => some (.int k (k.wrap (a ^^^ b).toNat))
  | .andNot => some (.int k (k.wrap (a &&& ~~~b).toNat))
  | _ => none

def intOp (op : BinOp) (k : IntKind) (x y : Int) : Option PV :=
  match op with
  | .add => some (.int k (k.wrap (x + y)))
  | .sub => some (.int k (k.wrap (x - y)))
  | .mul => some (.int k (k.wrap (x * y)))
  | .quo => if y = 0 then none else some (.int k (k.wrap (x.tdiv y)))
  | .rem => if y = 0 then none else some (.int k (x.tmod y))
  | .and | .or | .xor | .andNot => bitsOf op k x y
  | .eql => some (.bool (x == y))
  | .neq => some (.bool (x != y))
  | .lss => some (.bool (decide (x < y)))
  | .leq => some (.bool (decide (x ≤ y)))
  | .gtr => some (.bool (decide (x > y)))
  | .geq => some (.bool (decide (x ≥ y)))
  | _ => none

def shiftOp (op : BinOp) (k : IntKind) (x y : Int) : Option PV :=
  if y < 0 then none else
    match op with
    | .shl => some (.int k (k.wrap (x * 2 ^ (min y.toNat k.bits))))
    | .shr => some (.int k (x.fdiv (2 ^ (min y.toNat k.bits))))
    | _ => none

def strOp (op : BinOp) (x y : List UInt8) : Option PV :=
  match op with
  | .add => if ((x.length + y.length : Nat) : Int) > IntKind.i64.max then none else some (.str (x ++ y))
  | .eql => some (.bool (x == y))
  | .neq => some (.bool !(x == y))
  | .lss => some (.bool (Op.bytesLess x y))
  | .leq => some (.bool (Op.bytesLess x y || x == y))
  | .gtr => some (.bool !(Op.bytesLess x y || x == y))
  | .geq => some (.bool !(Op.bytesLess x y))
  | _ => none

def partOf (ctx : Ctx) (t : TypeId) (cs : List PV) (off : Nat) : Option PV :=
  match ctx.ty t with
  | none => none
  | some ti => if ti.agg then (if off + ti.size ≤ cs.length then some (.agg ((cs.drop off).take ti.size)) else none) else cs[off]?

def eqFields (ctx : Ctx) (eq : TypeId → PV → PV → Option Bool) : List Field → List PV → List PV → Option Bool
  | [], _, _ => some true
  | f :: fs, xs, ys =>
    if f.name = "_" then eqFields ctx eq fs xs ys else
      match partOf ctx f.type xs f.offset, partOf ctx f.type ys f.offset with
      | some a, some b =>
        match eq f.type a b with
        | some true => eqFields ctx eq fs xs ys
        | some false => some false
        | none => none
      | _, _ => none

def eqIn (ctx : Ctx) : Nat → TypeId → PV → PV → Option Bool
  | 0, _, _, _ => none
  | d + 1, t, x, y =>
    match ctx.ty t with
    | none => none
    | some ti =>
      match ti.und, x, y with
      | .bool, .bool a, .bool b => some (a == b)
      | .int _, .int k a, .int k' b => if k = k' then some (a == b) else none
      | .string, .str a, .str b => some (a == b)
      | .pointer _, .nilp, .nilp => some true
      | .pointer _, .nilp, .ptr _ _ => some false
      | .pointer _, .ptr _ _, .nilp => some false
      | .pointer _, .nilp, .iptr _ _ => some false
      | .pointer _, .iptr _ _, .nilp => some false
      | .interface _, .nili, .nili => some true
      | .interface _, .nili, .ifc _ _ => some false
      | .interface _, .ifc _ _, .nili => some false
      | .interface _, .ifc tx vx, .ifc ty vy =>
        if tx ≠ ty then some false else
          match ctx.ty tx with
          | none => none
          | some tj => if tj.comp then eqIn ctx d tx vx vy else none
      | .struct fields, .agg xs, .agg ys =>
        if ti.eqok then eqFields ctx (eqIn ctx d) fields.toList xs ys else none
      | .slice _, .nils, .nils => some true
      | .slice _, .nils, .lst _ _ => some false
      | .slice _, .lst _ _, .nils => some false
      | .slice _, .nils, .hsl _ _ _ => some false
      | .slice _, .hsl _ _ _, .nils => some false
      | .slice _, .nils, .rsl _ _ => some false
      | .slice _, .rsl _ _, .nils => some false
      | .slice _, .nils, .emp => some false
      | .slice _, .emp, .nils => some false
      | .map _ _, .nilm, .nilm => some true
      | .map _ _, .nilm, .map _ => some false
      | .map _ _, .map _, .nilm => some false
      | .func _ _ _, .nilf, .nilf => some true
      | .func _ _ _, .nilf, .fn _ _ _ => some false
      | .func _ _ _, .fn _ _ _, .nilf => some false
      | _, _, _ => none

def eqGuardOk (x y : Operand) : PV → PV → Bool
  | .nili, .nili => (match x with | .const _ => true | _ => false) || (match y with | .const _ => true | _ => false)
  | _, _ => true

def binPV (ctx : Ctx) (op : BinOp) (t : TypeId) (xo yo : Operand) (x y : PV) : Option PV :=
  match op, x, y with
  | .shl, .int k a, .int _ b => shiftOp .shl k a b
  | .shr, .int k a, .int _ b => shiftOp .shr k a b
  | op, .int k a, .int k' b => if k ≠ k' then none else intOp op k a b
  | op, .str a, .str b => strOp op a b
  | .eql, x, y => if eqGuardOk xo yo x y then (eqIn ctx 40 t x y).map .bool else none
  | .neq, x, y => if eqGuardOk xo yo x y then (eqIn ctx 40 t x y).map fun b => .bool !b else none
  | _, _, _ => none

def unPV (op : UnOp) (x : PV) : Option PV :=
  match op, x with
  | .neg, .int k n => some (.int k (k.wrap (0 - n)))
  | .xor, .int k n => bitsOf .xor k (if k.signed then -1 else k.max) n
  | .not, .bool b => some (.bool !b)
  | _, _ => none

def fillPV (place : Nat → Option (Nat × Nat)) (cells : List PV) : List (Nat × PV) → Option (List PV)
  | [] => some cells
  | (i, v) :: rest =>
    match place i with
    | none => none
    | some (off, size) =>
      if v.storable = false ∨ v.cells.length ≠ size ∨ off + size > cells.length then none
      else fillPV place (cells.take off ++ v.cells ++ cells.drop (off + size)) rest

def sizedAll (n : Nat) : List PV → Bool
  | [] => true
  | x :: xs => x.cells.length == n && sizedAll n xs

def isSlice : PV → Bool
  | .nils => true
  | .lst _ _ => true
  | .hsl _ _ _ => true
  | .emp => true
  | .rsl _ _ => true
  | _ => false

def PV.isOne : PV → Bool
  | .agg _ => false
  | _ => true

def putCells (y : PV) (j : Nat) (vs : List PV) : Option PV :=
  match y, vs with
  | .agg cs, vs => some (.agg (cs.take j ++ vs ++ cs.drop (j + vs.length)))
  | _, [v] => if v.isOne then some v else none
  | _, _ => none

def loadPV (ctx : Ctx) (t : TypeId) (a : PV) (S : List SObj) : Option PV :=
  match a with
  | .ptr id off =>
    match S[id]? with
    | some (.cells cs) => partOf ctx t cs off
    | some (.row xs sz _) => (xs[off / sz]?).bind fun x => partOf ctx t x.cells (off % sz)
    | _ => none
  | .iptr cs off => partOf ctx t cs off
  | _ => none

def storePV (ctx : Ctx) (base : Nat) (t : TypeId) (a x : PV) (S : List SObj) : Option (List SObj × Bool) :=
  match a with
  | .ptr id off =>
    match S[id]?, ctx.ty t with
    | some (.cells cs), some ti =>
      if x.storable = false ∨ x.cells.length ≠ ti.size ∨ off + ti.size > cs.length then none
      else some (S.set id (.cells (cs.take off ++ x.cells ++ cs.drop (off + ti.size))), decide (id < base) && !x.clean)
    | some (.row xs sz false), some ti =>
      if x.storable = false ∨ x.cells.length ≠ ti.size ∨ off % sz + ti.size > sz then none
      else ((xs[off / sz]?).bind fun y => putCells y (off % sz) x.strip.cells).map fun z => (S.set id (.row (xs.set (off / sz) z) sz false), decide (id < base) && !x.clean)
    | _, _ => none
  | _ => none

def fieldsOf (ctx : Ctx) (t : TypeId) : Option (Array Field) :=
  match ctx.ty t with
  | some ti => match ti.und with
    | .struct fs => some fs
    | _ => none
  | none => none

def fieldAddrPV (ctx : Ctx) (t : TypeId) (a : PV) (i : Nat) : Option PV :=
  match fieldsOf ctx t with
  | none => none
  | some fs => match fs[i]? with
    | none => none
    | some f => match ctx.ty f.type with
      | none => none
      | some fi => if fi.size = 0 then none else
        match a with
        | .ptr id off => some (.ptr id (off + f.offset))
        | .iptr cs off => some (.iptr cs (off + f.offset))
        | _ => none

def indexAddrPV (ctx : Ctx) (t : TypeId) (x : PV) (i : Int) : Option PV :=
  match ctx.ty t with
  | none => none
  | some ti =>
    match ti.und, x with
    | .slice e, .lst xs _ =>
      match ctx.ty e with
      | some ei =>
        if 0 ≤ i then match xs[i.toNat]? with
          | some v => if v.cells.length = ei.size then some (.iptr v.cells 0) else none
          | none => none
        else none
      | none => none
    | .slice e, .hsl id off len =>
      match ctx.ty e with
      | some ei => if 0 ≤ i ∧ i < len then some (.ptr id (off + i.toNat * ei.size)) else none
      | none => none
    | .slice e, .rsl id len =>
      match ctx.ty e with
      | some ei => if 0 ≤ i ∧ i < len then some (.ptr id (i.toNat * ei.size)) else none
      | none => none
    | .array n e, .ptr id off =>
      match ctx.ty e with
      | some ei => if 0 ≤ i ∧ i < n then some (.ptr id (off + i.toNat * ei.size)) else none
      | none => none
    | .array n e, .iptr cs off =>
      match ctx.ty e with
      | some ei => if 0 ≤ i ∧ i < n then some (.iptr cs (off + i.toNat * ei.size)) else none
      | none => none
    | _, _ => none

def indexPV (ctx : Ctx) (t : TypeId) (x : PV) (i : Int) : Option PV :=
  match ctx.ty t with
  | none => none
  | some ti =>
    match ti.und, x with
    | .string, .str s => if 0 ≤ i then (s[i.toNat]?).map fun b => .int .u8 b.toNat else none
    | .array n e, .agg cs =>
      match ctx.ty e with
      | some ei => if 0 ≤ i ∧ i < n then partOf ctx e cs (i.toNat * ei.size) else none
      | none => none
    | _, _ => none

def boundOf (x : Option PV) (d : Nat) : Option Int :=
  match x with
  | none => some d
  | some (.int _ n) => some n
  | _ => none

def slicePV (ctx : Ctx) (t : TypeId) (x : PV) (lo hi mx : Option PV) : Option PV :=
  match ctx.ty t with
  | none => none
  | some ti =>
    match ti.und, x, mx with
    | .string, .str s, none =>
      match boundOf lo 0, boundOf hi s.length with
      | some l, some h => if 0 ≤ l ∧ l ≤ h ∧ h ≤ s.length then some (.str ((s.take h.toNat).drop l.toNat)) else none
      | _, _ => none
    | .slice e, .lst xs tag, none =>
      match boundOf lo 0, boundOf hi xs.length, ctx.ty e with
      | some l, some h, some ei =>
        if 0 ≤ l ∧ l ≤ h ∧ h ≤ xs.length then
          if l = 0 ∧ h = xs.length then some (.lst xs tag) else
            if sizedAll ei.size xs then some (.lst ((xs.take h.toNat).drop l.toNat) .none) else none
        else none
      | _, _, _ => none
    | .slice e, .nils, none =>
      match boundOf lo 0, boundOf hi 0, ctx.ty e with
      | some l, some h, some _ => if l = 0 ∧ h = 0 then some .nils else none
      | _, _, _ => none
    | .slice e, .nils, some m =>
      match boundOf lo 0, boundOf hi 0, boundOf (some m) 0, ctx.ty e with
      | some l, some h, some k, some _ => if hi.isSome ∧ l = 0 ∧ h = 0 ∧ k = 0 then some .nils else none
      | _, _, _, _ => none
    | .slice e, .lst _ _, some m =>
      match boundOf lo 0, boundOf hi 0, boundOf (some m) 0, ctx.ty e with
      | some l, some h, some k, some _ => if hi.isSome ∧ l = 0 ∧ h = 0 ∧ k = 0 then some .emp else none
      | _, _, _, _ => none
    | .slice e, .hsl id off len, none =>
      match boundOf lo 0, boundOf hi len, ctx.ty e with
      | some l, some h, some ei =>
        if 0 ≤ l ∧ l ≤ h ∧ h ≤ len ∧ l < h then some (.hsl id (off + l.toNat * ei.size) (h - l).toNat) else none
      | _, _, _ => none
    | .array n e, .ptr id off, none =>
      match boundOf lo 0, boundOf hi n, ctx.ty e with
      | some l, some h, some ei =>
        if 0 ≤ l ∧ l ≤ h ∧ h ≤ n ∧ l < h then some (.hsl id (off + l.toNat * ei.size) (h - l).toNat) else none
      | _, _, _ => none
    | _, _, _ => none

def convPV (ctx : Ctx) (src dst : TypeId) (x : PV) (S : List SObj) : Option (PV × List SObj) :=
  match ctx.ty src, ctx.ty dst with
  | some si, some di =>
    match si.und, di.und, x with
    | .int _, .int k, .int _ n => some (.int k (k.wrap n), S)
    | .string, .string, .str s => some (.str s, S)
    | .string, .slice e, .str s =>
      match ctx.ty e with
      | some ei => match ei.und with
        | .int .u8 => some (.lst (s.map fun b => .int .u8 b.toNat) (.tip S.length), S ++ [.tip s.length 1])
        | _ => none
      | none => none
    | .slice e, .string, .lst xs _ =>
      match ctx.ty e with
      | some ei => match ei.und with
        | .int .u8 => (bytesOfPV xs).map fun b => (.str b, S)
        | _ => none
      | none => none
    | .slice e, .string, .nils =>
      match ctx.ty e with
      | some ei => match ei.und with
        | .int .u8 => some (.str [], S)
        | _ => none
      | none => none
    | _, _, _ => none
  | _, _ => none
  where
  bytesOfPV : List PV → Option (List UInt8)
    | [] => some []
    | .int .u8 n :: r => (bytesOfPV r).map (UInt8.ofNat n.toNat :: ·)
    | _ :: _ => none

def lenPV (ctx : Ctx) (t : TypeId) (x : PV) (S : List SObj) : Option Int :=
  match ctx.ty t with
  | none => none
  | some ti =>
    match ti.und, x with
    | .string, .str s => some s.length
    | .array n _, _ => some n
    | .slice _, .nils => some 0
    | .slice _, .lst xs _ => some xs.length
    | .slice _, .hsl _ _ n => some n
    | .slice _, .emp => some 0
    | .slice _, .rsl _ n => some n
    | .map _ _, .nilm => some 0
    | .map _ _, .map id => match S[id]? with
      | some (.map es) => some es.length
      | _ => none
    | _, _ => none

def listOf : PV → Option (List PV)
  | .nils => some []
  | .emp => some []
  | .lst xs _ => some xs
  | .str s => some (s.map fun b => .int .u8 b.toNat)
  | _ => none

def appendPV (ctx : Ctx) (ts : Array TypeId) (s x : PV) (S : List SObj) : Option (PV × List SObj) :=
  match ts[0]?, ts[1]? with
  | some t, some u =>
    match ctx.ty t, ctx.ty u, listOf x with
    | some ti, some ui, some ys =>
      match ti.und, ui.und with
      | .slice _, .int _ => none
      | .slice e, _ =>
        match ctx.ty e with
        | none => none
        | some ei =>
          if ys.isEmpty then (if isSlice s then some (s, S) else none) else
          if sizedAll ei.size ys = false ∨ ei.size = 0 ∨ ei.bytes = 0 ∨ ei.zero.storable = false ∨ ei.zero.cells.length ≠ ei.size then none else
          match s with
          | .nils => if ys.length * ei.bytes ≤ 2 ^ 47 then some (.lst ys (.tip S.length), S ++ [.tip ys.length ei.size]) else none
          | .lst xs .full => if (xs.length + ys.length) * ei.bytes ≤ 2 ^ 47 ∧ sizedAll ei.size xs then some (.lst (xs ++ ys) (.tip S.length), S ++ [.tip (xs.length + ys.length) ei.size]) else none
          | .rsl id len =>
            match S[id]? with
            | some (.row xs sz false) => if len = xs.length ∧ sz = ei.size ∧ (xs.length + ys.length) * ei.bytes ≤ 2 ^ 47 then some (.rsl S.length (xs.length + ys.length), S.set id .dead ++ [.row (xs ++ ys) sz false]) else none
            | _ => none
          | .lst xs (.tip id) =>
            match S[id]? with
            | some (.tip hw sz) => if hw = xs.length ∧ sz = ei.size ∧ (xs.length + ys.length) * ei.bytes ≤ 2 ^ 47 then some (.lst (xs ++ ys) (.tip id), S.set id (.tip (xs.length + ys.length) sz)) else none
            | _ => none
          | _ => none
      | _, _ => none
    | _, _, _ => none
  | _, _ => none

/-! Rows that may be written to -/
def frzQ (v : PV) (S : List SObj) : Option (PV × List SObj) :=
  match v with
  | .rsl id len => match S[id]? with
    | some (.row xs sz _) => if len = xs.length then some (.lst xs .none, S.set id (.row xs sz true)) else none
    | _ => none
  | .emp => some (.lst [] .none, S)
  | _ => none

def frz1 (v : PV) (S : List SObj) : PV × List SObj := (frzQ v S).getD (v, S)

def frzL : List PV → List SObj → List PV × List SObj
  | [], S => ([], S)
  | v :: vs, S => let (v', S1) := frz1 v S; let (vs', S2) := frzL vs S1; (v' :: vs', S2)

def frzT : List Operand → (Nat → PV) → List SObj → (Nat → PV) × List SObj
  | [], σ, S => (σ, S)
  | .tmp t :: xs, σ, S => match frzQ (σ t) S with
    | some (v, S1) => frzT xs (upd σ (some t) v) S1
    | none => frzT xs σ S
  | _ :: xs, σ, S => frzT xs σ S

def frzArgs (ctx : Ctx) (σ : Nat → PV) : Op → List Operand
  | .store _ _ x => [x]
  | .box _ x => [x]
  | .build _ ps => ps.toList.map (·.2)
  | .buildSlice _ _ ps => ps.toList.map (·.2)
  | .makeInterface _ x => [x]
  | .makeFunc _ as bs => as.toList ++ bs.toList
  | .convert _ _ x => [x]
  | .call c => match c.callee with
    | .builtin .append => c.args.toList.drop 1
    | .builtin _ => []
    | .value f => match opd σ f with
      | .fn (.func g) _ _ => if ctx.byref g then [] else c.args.toList
      | _ => c.args.toList
    | .invoke _ _ => c.args.toList
  | _ => []

def minmax (mx : Bool) : List PV → Option PV
  | [] => none
  | .int k n :: r => go k n r
  | _ => none
  where
  go (k : IntKind) (n : Int) : List PV → Option PV
    | [] => some (.int k n)
    | .int _ m :: r => go k (if mx then (if n < m then m else n) else (if m < n then m else n)) r
    | _ => none

end Go.Pam
