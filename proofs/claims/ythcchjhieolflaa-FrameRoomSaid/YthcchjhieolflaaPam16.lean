/- The abstract machine once more, its arithmetic and its lists' operations behind names: so that a run over unknown values stops where it has to be told something. -/
import Derived.Test.YthcchjhieolflaaPam15
namespace Go.Pam

open Classical in
/-- What something comes to, at last. -/
noncomputable def lim' {α : Type} (f : Nat → Option α) : Option α := if h : ∃ r k, ∀ k', k ≤ k' → f k' = some r then some h.choose else none

theorem lim_of {α : Type} {f : Nat → Option α} {r : α} (k : Nat) (h : ∀ k', k ≤ k' → f k' = some r) : lim' f = some r := by
  have hex : ∃ r k, ∀ k', k ≤ k' → f k' = some r := ⟨r, k, h⟩
  unfold lim'
  rw [dif_pos hex]
  obtain ⟨k2, h2⟩ := hex.choose_spec
  have a := h (k + k2) (by omega)
  have b := h2 (k + k2) (by omega)
  rw [a] at b; exact b.symm

theorem of_lim {α : Type} {f : Nat → Option α} {r : α} (h : lim' f = some r) : ∃ k, ∀ k', k ≤ k' → f k' = some r := by
  unfold lim' at h
  split at h
  · rename_i hex
    injection h with h
    have := hex.choose_spec
    rw [h] at this; exact this
  · cases h

/-- A loop, to its end. -/
noncomputable def loopw (body : St → Option (Ex × St)) (s : St) : Option (Ex × St) := lim' fun k => rounds body k s

theorem rounds_mono {body : St → Option (Ex × St)} : ∀ {k : Nat} {s : St} {r : Ex × St}, rounds body k s = some r → ∀ k', k ≤ k' → rounds body k' s = some r
  | 0, _, _, h => by cases h
  | k + 1, s, r, h => by
    intro k' hk'
    obtain ⟨j, rfl⟩ : ∃ j, k' = j + 1 := ⟨k' - 1, by omega⟩
    simp only [rounds] at h ⊢
    cases hb : body s with
    | none => rw [hb] at h; cases h
    | some q =>
      rw [hb] at h
      obtain ⟨x, s'⟩ := q
      cases x with
      | normal => exact rounds_mono (k := k) h j (by omega)
      | exit i => exact h
      | ret => exact h

theorem loopw_of {body : St → Option (Ex × St)} {k : Nat} {s : St} {r : Ex × St} (h : rounds body k s = some r) : loopw body s = some r := lim_of k (rounds_mono h)

theorem loopw_more {body : St → Option (Ex × St)} {s s' : St} {r : Ex × St} (h : body s = some (.normal, s')) (h2 : loopw body s' = some r) : loopw body s = some r := by
  obtain ⟨k, hk⟩ := of_lim h2
  refine loopw_of (k := k + 1) ?_
  simp only [rounds, h]
  exact hk k (Nat.le_refl _)

theorem loopw_exit {body : St → Option (Ex × St)} {s s' : St} {i : Nat} (h : body s = some (.exit i, s')) : loopw body s = some (.exit i, s') :=
  loopw_of (k := 1) (by simp only [rounds, h])

theorem loopw_ret {body : St → Option (Ex × St)} {s s' : St} (h : body s = some (.ret, s')) : loopw body s = some (.ret, s') :=
  loopw_of (k := 1) (by simp only [rounds, h])

/-- A call, to its end. -/
noncomputable def evw (env : Env) (f : FuncId) (args : List PV) (S : List SObj) : Option (PV × List SObj × Bool) := lim' fun k => ev env k f args S

structure Prim where
  add : IntKind → Int → Int → Int
  sub : IntKind → Int → Int → Int
  mul : IntKind → Int → Int → Int
  quo : IntKind → Int → Int → Int
  rem : IntKind → Int → Int → Int
  bits : BinOp → IntKind → Int → Int → Int
  shl : IntKind → Int → Int → Int
  shr : IntKind → Int → Int → Int
  conv : IntKind → Int → Int
  lt : Int → Int → Bool
  le : Int → Int → Bool
  eq : Int → Int → Bool
  mn : Int → Int → Int
  mx : Int → Int → Int
  slen : List UInt8 → Int
  seq : List UInt8 → List UInt8 → Bool
  slt : List UInt8 → List UInt8 → Bool
  sapp : List UInt8 → List UInt8 → List UInt8
  sfits : List UInt8 → List UInt8 → Bool
  sin : List UInt8 → Int → Bool
  sat : List UInt8 → Int → Int
  ssubOk : Int → Int → Int → Bool
  ssub : List UInt8 → Int → Int → List UInt8
  sbytes : List UInt8 → List PV
  llen : List PV → Int
  lnum : List PV → Nat
  lin : List PV → Int → Bool
  lat : List PV → Int → PV
  lall : Int → Int → List PV → Bool
  lsub : List PV → Int → Int → List PV
  lapp : List PV → List PV → List PV
  lemp : List PV → Bool
  lsized : Nat → List PV → Bool
  lfits : List PV → List PV → Nat → Bool
  lhw : Nat → List PV → Bool
  ltext : List PV → Option (List UInt8)
  rep : Int → PV → List PV
  repOk : Int → Int → Nat → Bool
  mul2 : Int → Nat → Nat
  nin : Int → Nat → Bool
  nsub : Int → Int → Nat
  sfit2 : List UInt8 → Nat
  lsum : List PV → List PV → Nat
  tipOk : List PV → List PV → Nat → Nat → Nat → Nat → Bool
  sn : List SObj → Nat
  sget : List SObj → Nat → Option SObj
  sset : List SObj → Nat → SObj → List SObj
  spush : List SObj → SObj → List SObj
  same : List SObj → List SObj → Bool → Bool
  esc : Nat → Nat → PV → Bool
  or : Bool → Bool → Bool
  nlen : Nat → Int
  ne : Int → Int → Bool
  sne : List UInt8 → List UInt8 → Bool
  sle : List UInt8 → List UInt8 → Bool
  sgt : List UInt8 → List UInt8 → Bool
  sge : List UInt8 → List UInt8 → Bool
  loop : (St → Option (Ex × St)) → St → Option (Ex × St)

noncomputable def real : Prim where
  add k x y := k.wrap (x + y)
  sub k x y := k.wrap (x - y)
  mul k x y := k.wrap (x * y)
  quo k x y := k.wrap (x.tdiv y)
  rem _ x y := x.tmod y
  bits op k x y := match op with
    | .and => k.wrap (BitVec.ofInt k.bits x &&& BitVec.ofInt k.bits y).toNat
    | .or => k.wrap (BitVec.ofInt k.bits x ||| BitVec.ofInt k.bits y).toNat
    | .xor => k.wrap (BitVec.ofInt k.bits x ^^^ BitVec.ofInt k.bits y).toNat
    | _ => k.wrap (BitVec.ofInt k.bits x &&& ~~~BitVec.ofInt k.bits y).toNat
  shl k x y := k.wrap (x * 2 ^ (min y.toNat k.bits))
  shr k x y := x.fdiv (2 ^ (min y.toNat k.bits))
  conv k n := k.wrap n
  lt x y := decide (x < y)
  le x y := decide (x ≤ y)
  eq x y := x == y
  mn n m := if m < n then m else n
  mx n m := if n < m then m else n
  slen s := s.length
  seq a b := a == b
  slt := Op.bytesLess
  sapp a b := a ++ b
  sfits a b := !decide (((a.length + b.length : Nat) : Int) > IntKind.i64.max)
  sin s i := decide (0 ≤ i ∧ i < s.length)
  sat s i := ((s[i.toNat]?).getD 0).toNat
  ssubOk l h n := decide (0 ≤ l ∧ l ≤ h ∧ h ≤ n)
  ssub s l h := (s.take h.toNat).drop l.toNat
  sbytes s := s.map fun b => .int .u8 b.toNat
  llen xs := xs.length
  lnum xs := xs.length
  lin xs i := decide (0 ≤ i ∧ i < xs.length)
  lat xs i := xs.getD i.toNat .poison
  lall l h xs := decide (l = 0 ∧ h = xs.length)
  lsub xs l h := (xs.take h.toNat).drop l.toNat
  lapp xs ys := xs ++ ys
  lemp xs := xs.isEmpty
  lsized := sizedAll
  lfits xs ys b := decide ((xs.length + ys.length) * b ≤ 2 ^ 47)
  lhw n xs := decide (n = xs.length)
  ltext := convPV.bytesOfPV
  rep n x := List.replicate n.toNat x
  repOk n m b := decide (0 ≤ n ∧ n = m ∧ b * n ≤ 2 ^ 47 ∧ n ≤ 2 ^ 62)
  mul2 i n := i.toNat * n
  nin i n := decide (0 ≤ i ∧ i < n)
  nsub h l := (h - l).toNat
  sfit2 s := s.length
  lsum xs ys := xs.length + ys.length
  tipOk xs ys b sz hw tz := decide (hw = xs.length ∧ tz = sz ∧ (xs.length + ys.length) * b ≤ 2 ^ 47)
  sn S := S.length
  sget S i := S[i]?
  sset S i x := S.set i x
  spush S x := S ++ [x]
  same S' S e := sameS S' S && !e
  esc id base x := decide (id < base) && !x.clean
  or a b := a || b
  nlen n := n
  ne x y := !(x == y)
  sne a b := !(a == b)
  sle a b := Op.bytesLess a b || a == b
  sgt a b := !(Op.bytesLess a b || a == b)
  sge a b := !Op.bytesLess a b
  loop := loopw

theorem real_ex : ∃ o, o = real := ⟨_, rfl⟩

variable (o : Prim)

def intO (op : BinOp) (k : IntKind) (x y : Int) : Option PV :=
  match op with
  | .add => some (.int k (o.add k x y))
  | .sub => some (.int k (o.sub k x y))
  | .mul => some (.int k (o.mul k x y))
  | .quo => if o.eq y 0 then none else some (.int k (o.quo k x y))
  | .rem => if o.eq y 0 then none else some (.int k (o.rem k x y))
  | .and | .or | .xor | .andNot => some (.int k (o.bits op k x y))
  | .eql => some (.bool (o.eq x y))
  | .neq => some (.bool (o.ne x y))
  | .lss => some (.bool (o.lt x y))
  | .leq => some (.bool (o.le x y))
  | .gtr => some (.bool (o.lt y x))
  | .geq => some (.bool (o.le y x))
  | _ => none

theorem intO_eq (op : BinOp) (k : IntKind) (x y : Int) : intO real op k x y = intOp op k x y := by
  cases op <;> simp [intO, intOp, real, bitsOf, bne]

def shiftO (op : BinOp) (k : IntKind) (x y : Int) : Option PV :=
  if o.lt y 0 then none else
    match op with
    | .shl => some (.int k (o.shl k x y))
    | .shr => some (.int k (o.shr k x y))
    | _ => none

theorem shiftO_eq (op : BinOp) (k : IntKind) (x y : Int) : shiftO real op k x y = shiftOp op k x y := by
  cases op <;> simp [shiftO, shiftOp, real]

def strO (op : BinOp) (x y : List UInt8) : Option PV :=
  match op with
  | .add => if o.sfits x y then some (.str (o.sapp x y)) else none
  | .eql => some (.bool (o.seq x y))
  | .neq => some (.bool (o.sne x y))
  | .lss => some (.bool (o.slt x y))
  | .leq => some (.bool (o.sle x y))
  | .gtr => some (.bool (o.sgt x y))
  | .geq => some (.bool (o.sge x y))
  | _ => none

theorem strO_eq (op : BinOp) (x y : List UInt8) : strO real op x y = strOp op x y := by
  cases op <;> try rfl
  simp only [strO, strOp]
  by_cases h : ((x.length + y.length : Nat) : Int) > IntKind.i64.max
  · have e : real.sfits x y = false := by simp only [real]; rw [decide_eq_true h]; rfl
    rw [e, if_pos h]; rfl
  · have e : real.sfits x y = true := by simp only [real]; rw [decide_eq_false h]; rfl
    rw [e, if_neg h]; rfl

def eqO (ctx : Ctx) : Nat → TypeId → PV → PV → Option Bool
  | 0, _, _, _ => none
  | d + 1, t, x, y =>
    match ctx.ty t with
    | none => none
    | some ti =>
      match ti.und, x, y with
      | .bool, .bool a, .bool b => some (a == b)
      | .int _, .int k a, .int k' b => if k = k' then some (o.eq a b) else none
      | .string, .str a, .str b => some (o.seq a b)
      | .pointer _, .nilp, .nilp => some true
      | .pointer _, .nilp, .ptr _ _ => some false
      | .pointer _, .ptr _ _, .nilp => some false
      | .pointer _, .nilp, .iptr _ _ => some false
      | .pointer _, .iptr _ _, .nilp => some false
      | .interface _, .nili, .nili => some true
      | .interface _, .nili, .ifc _ _ => some false
      | .interface _, .ifc _ _, .nili => some false
      | .interface _, .ifc tx vx, .ifc ty vy =>
        if tx ≠ ty then some false else
          match ctx.ty tx with
          | none => none
          | some tj => if tj.comp then eqO ctx d tx vx vy else none
      | .struct fields, .agg xs, .agg ys =>
        if ti.eqok then eqFields ctx (eqO ctx d) fields.toList xs ys else none
      | .slice _, .nils, .nils => some true
      | .slice _, .nils, .lst _ _ => some false
      | .slice _, .lst _ _, .nils => some false
      | .slice _, .nils, .hsl _ _ _ => some false
      | .slice _, .hsl _ _ _, .nils => some false
      | .map _ _, .nilm, .nilm => some true
      | .map _ _, .nilm, .map _ => some false
      | .map _ _, .map _, .nilm => some false
      | .func _ _ _, .nilf, .nilf => some true
      | .func _ _ _, .nilf, .fn _ _ _ => some false
      | .func _ _ _, .fn _ _ _, .nilf => some false
      | _, _, _ => none

theorem eqO_eq (ctx : Ctx) : ∀ d t x y, eqO real ctx d t x y = eqIn ctx d t x y
  | 0, _, _, _ => rfl
  | d + 1, t, x, y => by
    have ih : eqO real ctx d = eqIn ctx d := by funext a b c; exact eqO_eq ctx d a b c
    unfold eqO eqIn
    rw [ih]
    rfl

def binO (ctx : Ctx) (op : BinOp) (t : TypeId) (xo yo : Operand) (x y : PV) : Option PV :=
  match op, x, y with
  | .shl, .int k a, .int _ b => shiftO o .shl k a b
  | .shr, .int k a, .int _ b => shiftO o .shr k a b
  | op, .int k a, .int k' b => if k ≠ k' then none else intO o op k a b
  | op, .str a, .str b => strO o op a b
  | .eql, x, y => if eqGuardOk xo yo x y then (eqO o ctx 40 t x y).map .bool else none
  | .neq, x, y => if eqGuardOk xo yo x y then (eqO o ctx 40 t x y).map fun b => .bool !b else none
  | _, _, _ => none

theorem binO_eq (ctx : Ctx) (op : BinOp) (t : TypeId) (xo yo : Operand) (x y : PV) : binO real ctx op t xo yo x y = binPV ctx op t xo yo x y := by
  unfold binO binPV
  simp only [shiftO_eq, intO_eq, strO_eq, eqO_eq]
  rfl

def unO (op : UnOp) (x : PV) : Option PV :=
  match op, x with
  | .neg, .int k n => some (.int k (o.sub k 0 n))
  | .xor, .int k n => some (.int k (o.bits .xor k (if k.signed then -1 else k.max) n))
  | .not, .bool b => some (.bool !b)
  | _, _ => none

theorem unO_eq (op : UnOp) (x : PV) : unO real op x = unPV op x := by
  unfold unO unPV
  split <;> simp_all [real, bitsOf]

def indexAddrO (ctx : Ctx) (t : TypeId) (x : PV) (i : Int) : Option PV :=
  match ctx.ty t with
  | none => none
  | some ti =>
    match ti.und, x with
    | .slice e, .lst xs _ =>
      match ctx.ty e with
      | some ei => if o.lin xs i then (if (o.lat xs i).cells.length = ei.size then some (.iptr (o.lat xs i).cells 0) else none) else none
      | none => none
    | .slice e, .hsl id off len =>
      match ctx.ty e with
      | some ei => if o.nin i len then some (.ptr id (off + o.mul2 i ei.size)) else none
      | none => none
    | .array n e, .ptr id off =>
      match ctx.ty e with
      | some ei => if o.nin i n then some (.ptr id (off + o.mul2 i ei.size)) else none
      | none => none
    | .array n e, .iptr cs off =>
      match ctx.ty e with
      | some ei => if o.nin i n then some (.iptr cs (off + o.mul2 i ei.size)) else none
      | none => none
    | _, _ => none

theorem lin_lat (xs : List PV) (i : Int) (f : PV → Option PV) :
    (if 0 ≤ i then match xs[i.toNat]? with
      | some v => f v
      | none => none else none) = if real.lin xs i then f (real.lat xs i) else none := by
  simp only [real]
  by_cases h0 : 0 ≤ i
  · by_cases h1 : i < xs.length
    · have hl : i.toNat < xs.length := by omega
      simp [h0, h1, List.getD]
    · have hl : xs.length ≤ i.toNat := by omega
      simp [h0, h1]
  · simp [h0]

theorem indexAddrO_eq (ctx : Ctx) (t : TypeId) (x : PV) (i : Int) : indexAddrO real ctx t x i = indexAddrPV ctx t x i := by
  unfold indexAddrO indexAddrPV
  cases ctx.ty t with
  | none => rfl
  | some ti =>
    obtain ⟨und, _, _, _, _, _, _⟩ := ti
    cases und <;> try rfl
    · cases x <;> try rfl
      · rename_i e xs tag
        simp only
        cases ctx.ty e with
        | none => rfl
        | some ei => exact (lin_lat xs i (fun v => if v.cells.length = ei.size then some (PV.iptr v.cells 0) else none)).symm
      · simp [real] <;> rfl
    · cases x <;> try rfl
      · simp [real] <;> rfl
      · simp [real] <;> rfl

def indexO (ctx : Ctx) (t : TypeId) (x : PV) (i : Int) : Option PV :=
  match ctx.ty t with
  | none => none
  | some ti =>
    match ti.und, x with
    | .string, .str s => if o.sin s i then some (.int .u8 (o.sat s i)) else none
    | .array n e, .agg cs =>
      match ctx.ty e with
      | some ei => if o.nin i n then partOf ctx e cs (o.mul2 i ei.size) else none
      | none => none
    | _, _ => none

theorem sin_sat (s : List UInt8) (i : Int) : (if 0 ≤ i then (s[i.toNat]?).map fun b => PV.int .u8 b.toNat else none) = if real.sin s i then some (.int .u8 (real.sat s i)) else none := by
  simp only [real]
  by_cases h0 : 0 ≤ i
  · by_cases h1 : i < s.length
    · have hl : i.toNat < s.length := by omega
      simp [h0, h1]
    · have hl : s.length ≤ i.toNat := by omega
      simp [h0, h1]
  · simp [h0]

theorem indexO_eq (ctx : Ctx) (t : TypeId) (x : PV) (i : Int) : indexO real ctx t x i = indexPV ctx t x i := by
  unfold indexO indexPV
  cases ctx.ty t with
  | none => rfl
  | some ti =>
    obtain ⟨und, _, _, _, _, _, _⟩ := ti
    cases und <;> try rfl
    · cases x <;> try rfl
      exact (sin_sat _ i).symm
    · cases x <;> try rfl
      simp [real] <;> rfl

def boundO (x : Option PV) (d : Int) : Option Int :=
  match x with
  | none => some d
  | some (.int _ n) => some n
  | _ => none

def sliceO (ctx : Ctx) (t : TypeId) (x : PV) (lo hi mx : Option PV) : Option PV :=
  match ctx.ty t with
  | none => none
  | some ti =>
    match ti.und, x, mx with
    | .string, .str s, none =>
      match boundO lo 0, boundO hi (o.slen s) with
      | some l, some h => if o.ssubOk l h (o.slen s) then some (.str (o.ssub s l h)) else none
      | _, _ => none
    | .slice e, .lst xs tag, none =>
      match boundO lo 0, boundO hi (o.llen xs), ctx.ty e with
      | some l, some h, some ei =>
        if o.ssubOk l h (o.llen xs) then
          if o.lall l h xs then some (.lst xs tag) else
            if o.lsized ei.size xs then some (.lst (o.lsub xs l h) .none) else none
        else none
      | _, _, _ => none
    | .slice e, .nils, none =>
      match boundO lo 0, boundO hi 0, ctx.ty e with
      | some l, some h, some _ => if o.eq l 0 && o.eq h 0 then some .nils else none
      | _, _, _ => none
    | .slice e, .hsl id off len, none =>
      match boundO lo 0, boundO hi len, ctx.ty e with
      | some l, some h, some ei =>
        if o.ssubOk l h len && o.lt l h then some (.hsl id (off + o.mul2 l ei.size) (o.nsub h l)) else none
      | _, _, _ => none
    | .array n e, .ptr id off, none =>
      match boundO lo 0, boundO hi n, ctx.ty e with
      | some l, some h, some ei =>
        if o.ssubOk l h n && o.lt l h then some (.hsl id (off + o.mul2 l ei.size) (o.nsub h l)) else none
      | _, _, _ => none
    | _, _, _ => none

theorem boundO_eq (x : Option PV) (d : Nat) : boundO x d = boundOf x d := rfl

theorem sliceO_eq (ctx : Ctx) (t : TypeId) (x : PV) (lo hi mx : Option PV) : sliceO real ctx t x lo hi mx = slicePV ctx t x lo hi mx := by
  unfold sliceO slicePV
  cases ctx.ty t with
  | none => rfl
  | some ti =>
    obtain ⟨und, _, _, _, _, _, _⟩ := ti
    cases und <;> try rfl
    · cases x <;> try rfl
      cases mx <;> try rfl
      simp [real, boundO_eq] <;> rfl
    · cases x <;> try rfl
      · cases mx <;> try rfl
        simp [real] <;> rfl
      · cases mx <;> try rfl
        simp [real, boundO_eq] <;> rfl
      · cases mx <;> try rfl
        simp [real, boundO_eq, and_assoc] <;> rfl
    · cases x <;> try rfl
      · cases mx <;> try rfl
        simp [real, boundO_eq, and_assoc] <;> rfl
end Go.Pam
