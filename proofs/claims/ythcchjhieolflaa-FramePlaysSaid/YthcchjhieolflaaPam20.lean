/- The same: conversions, rows that grow, calls, regions, bodies. -/
import Derived.Test.YthcchjhieolflaaPam19
namespace Go.Pam
variable (o : Prim)

def convK (ctx : Ctx) (src dst : TypeId) (x : PV) (S : List SObj) (K : PV → List SObj → Prop) : Prop :=
  match ctx.ty src, ctx.ty dst with
  | some si, some di =>
    match si.und, di.und, x with
    | .int _, .int k, .int _ n => K (.int k (o.conv k n)) S
    | .string, .string, .str s => K (.str s) S
    | .slice e, .string, .lst xs _ =>
      match ctx.ty e with
      | some ei => match ei.und with
        | .int .u8 => ∃ b, o.ltext xs = some b ∧ K (.str b) S
        | _ => False
      | none => False
    | _, _, x => optK (convO o ctx src dst x S) fun p => K p.1 p.2
  | _, _ => False

theorem convK_ok (ctx : Ctx) (s d : TypeId) (x : PV) (S : List SObj) (K : PV → List SObj → Prop) (h : convK o ctx s d x S K) : ∃ p, convO o ctx s d x S = some p ∧ K p.1 p.2 := by
  unfold convK at h
  cases hs : ctx.ty s with
  | none => rw [hs] at h; exact h.elim
  | some si =>
    cases hd : ctx.ty d with
    | none => rw [hs, hd] at h; exact h.elim
    | some di =>
      rw [hs, hd] at h
      simp only at h
      split at h
      · rename_i h1 h2; unfold convO; simp only [hs, hd, h1, h2]; exact ⟨_, rfl, h⟩
      · rename_i h1 h2; unfold convO; simp only [hs, hd, h1, h2]; exact ⟨_, rfl, h⟩
      · rename_i e xs tag h1 h2; unfold convO; simp only [hs, hd, h1, h2]
        cases he : ctx.ty e with
        | none => rw [he] at h; exact h.elim
        | some ei =>
          rw [he] at h
          simp only at h ⊢
          split at h
          · rename_i hu
            obtain ⟨b, h3, h4⟩ := h
            rw [hu]
            simp only [h3]
            exact ⟨_, rfl, h4⟩
          · exact h.elim
      · exact optK_of h

def appendK (ctx : Ctx) (ts : Array TypeId) (s x : PV) (S : List SObj) (K : PV → List SObj → Prop) : Prop :=
  match ts[0]?, ts[1]? with
  | some t, some u =>
    match ctx.ty t, ctx.ty u, listO o x with
    | some ti, some ui, some ys =>
      match ti.und, ui.und with
      | .slice _, .int _ => False
      | .slice e, _ =>
        match ctx.ty e with
        | none => False
        | some ei =>
          if o.lemp ys then (if isSlice s then K s S else False) else
          o.lsized ei.size ys = true ∧ (if ei.size = 0 ∨ ei.bytes = 0 ∨ ei.zero.storable = false ∨ ei.zero.cells.length ≠ ei.size then False else
          match s with
          | .nils => o.lfits [] ys ei.bytes = true ∧ K (.lst ys (.tip (o.sn S))) (o.spush S (.tip (o.lnum ys) ei.size))
          | .lst xs .full => o.lfits xs ys ei.bytes = true ∧ o.lsized ei.size xs = true ∧ K (.lst (o.lapp xs ys) (.tip (o.sn S))) (o.spush S (.tip (o.lsum xs ys) ei.size))
          | .lst xs (.tip id) => ∃ hw sz, o.sget S id = some (.tip hw sz) ∧ o.tipOk xs ys ei.bytes ei.size hw sz = true ∧ K (.lst (o.lapp xs ys) (.tip id)) (o.sset S id (.tip (o.lsum xs ys) sz))
          | _ => False)
      | _, _ => False
    | _, _, _ => False
  | _, _ => False

theorem appendK_ok (ctx : Ctx) (ts : Array TypeId) (s x : PV) (S : List SObj) (K : PV → List SObj → Prop) (h : appendK o ctx ts s x S K) : ∃ p, appendO o ctx ts s x S = some p ∧ K p.1 p.2 := by
  unfold appendK at h
  unfold appendO
  split at h
  case h_2 => exact h.elim
  rename_i t u ht hu
  split at h
  case h_2 => exact h.elim
  rename_i ti ui ys h1 h2 h3
  rw [ht, hu]; simp only [h1, h2, h3]
  revert h
  have key : ∀ e, (match ctx.ty e with
        | none => False
        | some ei =>
          if o.lemp ys then (if isSlice s then K s S else False) else
          o.lsized ei.size ys = true ∧ (if ei.size = 0 ∨ ei.bytes = 0 ∨ ei.zero.storable = false ∨ ei.zero.cells.length ≠ ei.size then False else
          match s with
          | .nils => o.lfits [] ys ei.bytes = true ∧ K (.lst ys (.tip (o.sn S))) (o.spush S (.tip (o.lnum ys) ei.size))
          | .lst xs .full => o.lfits xs ys ei.bytes = true ∧ o.lsized ei.size xs = true ∧ K (.lst (o.lapp xs ys) (.tip (o.sn S))) (o.spush S (.tip (o.lsum xs ys) ei.size))
          | .lst xs (.tip id) => ∃ hw sz, o.sget S id = some (.tip hw sz) ∧ o.tipOk xs ys ei.bytes ei.size hw sz = true ∧ K (.lst (o.lapp xs ys) (.tip id)) (o.sset S id (.tip (o.lsum xs ys) sz))
          | _ => False)) → ∃ p : PV × List SObj, (match ctx.ty e with
        | none => none
        | some ei =>
          if o.lemp ys then (if isSlice s then some (s, S) else none) else
          if o.lsized ei.size ys = false ∨ ei.size = 0 ∨ ei.bytes = 0 ∨ ei.zero.storable = false ∨ ei.zero.cells.length ≠ ei.size then none else
          match s with
          | .nils => if o.lfits [] ys ei.bytes then some (.lst ys (.tip (o.sn S)), o.spush S (.tip (o.lnum ys) ei.size)) else none
          | .lst xs .full => if o.lfits xs ys ei.bytes && o.lsized ei.size xs then some (.lst (o.lapp xs ys) (.tip (o.sn S)), o.spush S (.tip (o.lsum xs ys) ei.size)) else none
          | .lst xs (.tip id) =>
            match o.sget S id with
            | some (.tip hw sz) => if o.tipOk xs ys ei.bytes ei.size hw sz then some (.lst (o.lapp xs ys) (.tip id), o.sset S id (.tip (o.lsum xs ys) sz)) else none
            | _ => none
          | _ => none) = some p ∧ K p.1 p.2 := by
    intro e h
    cases he : ctx.ty e with
    | none => rw [he] at h; exact h.elim
    | some ei =>
    rw [he] at h
    simp only at h ⊢
    split at h
    · rename_i hb
      rw [if_pos hb]
      split at h
      · rename_i hsl; rw [if_pos hsl]; exact ⟨_, rfl, h⟩
      · exact h.elim
    · rename_i hb
      rw [if_neg hb]
      obtain ⟨hz, h⟩ := h
      split at h
      · exact h.elim
      rename_i hcond
      rw [if_neg (by rintro (hx | hx); · rw [hz] at hx; cases hx
                     · exact hcond hx)]
      split at h
      · simp only [h.1, if_true]; exact ⟨_, rfl, h.2⟩
      · simp only [h.1, h.2.1, Bool.and_self, if_true]; exact ⟨_, rfl, h.2.2⟩
      · obtain ⟨hw, sz, g1, g2, g3⟩ := h
        simp only [g1, g2, if_true]; exact ⟨_, rfl, g3⟩
      · exact h.elim
  intro h
  obtain ⟨u1, _, _, _, _, _, _⟩ := ti
  obtain ⟨u2, _, _, _, _, _, _⟩ := ui
  cases u1 <;> try exact h.elim
  cases u2 <;> first | exact h.elim | exact key _ h

def callK (ctx : Ctx) (cp : CallP) (σ : Nat → PV) (S : List SObj) (c : Go.Call) (K : KV) : Prop :=
  match c.callee with
  | .builtin .len => match c.argTypes[0]?, c.args.toList.map (opd σ) with
    | some t, x :: _ => optK (lenO o ctx t x S) fun n => K (.int .i64 n) S false
    | _, _ => False
  | .builtin .append => match c.args.toList.map (opd σ) with
    | s :: x :: _ => appendK o ctx c.argTypes s x S fun v S' => K v S' false
    | _ => False
  | .builtin .min => optK (minmaxO o false (c.args.toList.map (opd σ))) fun v => K v S false
  | .builtin .max => optK (minmaxO o true (c.args.toList.map (opd σ))) fun v => K v S false
  | .builtin _ => False
  | .value f => match opd σ f with
    | .fn (.func f) [] cap => cp f (c.args.toList.map (opd σ) ++ cap) S K
    | _ => False
  | .invoke r name => match methodPV ctx (opd σ r) name with
    | some (f, v) => cp f (v :: c.args.toList.map (opd σ)) S K
    | none => False

def CpOk (call : Call') (cp : CallP) : Prop := ∀ f args S K, cp f args S K → ∃ v S' e, call f args S = some (v, S', e) ∧ K v S' e

theorem callK_ok (ctx : Ctx) {call : Call'} {cp : CallP} (hc : CpOk call cp) (σ : Nat → PV) (S : List SObj) (c : Go.Call) (K : KV) (h : callK o ctx cp σ S c K) : ∃ v S' e, callO o ctx call σ S c = some (v, S', e) ∧ K v S' e := by
  obtain ⟨callee, args, argTypes⟩ := c
  cases callee with
  | builtin b =>
    cases b <;> simp only [callK] at h <;> simp only [callO] <;> try exact h.elim
    · split at h
      · rename_i s x _ h1
        obtain ⟨p, g1, g2⟩ := appendK_ok o _ _ _ _ _ _ h
        simp only [h1, g1]
        exact ⟨_, _, _, rfl, g2⟩
      · exact h.elim
    · split at h
      · rename_i t x _ h1 h2
        obtain ⟨n, g1, g2⟩ := optK_of h
        simp only [h1, h2, g1]
        exact ⟨_, _, _, rfl, g2⟩
      · exact h.elim
    all_goals
      obtain ⟨n, g1, g2⟩ := optK_of h
      simp only [g1]
      exact ⟨_, _, _, rfl, g2⟩
  | value f =>
    simp only [callK] at h
    simp only [callO]
    split at h
    · rename_i hf; simp only [hf]; exact hc _ _ _ _ h
    · exact h.elim
  | invoke r name =>
    simp only [callK] at h
    simp only [callO]
    split at h
    · rename_i hf; simp only [hf]; exact hc _ _ _ _ h
    · exact h.elim

def makeSliceK (ctx : Ctx) (t : TypeId) (l c : PV) (S : List SObj) (K : PV → List SObj → Prop) : Prop :=
  match ctx.ty t, l, c with
  | some ti, .int _ n, .int _ m =>
    match ti.und with
    | .slice e => match ctx.ty e with
      | some ei => o.repOk n m ei.bytes = true ∧ (if (ei.size != 0 && (ei.zero.cells.length == ei.size && ei.zero.storable)) = true then K (.lst (o.rep n ei.zero) .full) S else False)
      | none => False
    | _ => False
  | _, _, _ => False

theorem makeSliceK_ok (ctx : Ctx) (t : TypeId) (l c : PV) (S : List SObj) (K : PV → List SObj → Prop) (h : makeSliceK o ctx t l c S K) : ∃ p, makeSliceO o ctx t l c S = some p ∧ K p.1 p.2 := by
  unfold makeSliceK at h
  unfold makeSliceO
  split at h
  case h_2 => exact h.elim
  rename_i ti _ n _ m ht
  rw [ht]
  simp only
  split at h
  case h_2 => exact h.elim
  rename_i e hu
  rw [hu]
  simp only
  split at h
  case h_2 => exact h.elim
  rename_i ei he
  rw [he]
  simp only
  obtain ⟨h1, h2⟩ := h
  split at h2
  · rename_i hb
    rw [h1, hb]
    exact ⟨_, rfl, h2⟩
  · exact h2.elim

def loadK (ctx : Ctx) (t : TypeId) (a : PV) (S : List SObj) (K : PV → Prop) : Prop :=
  match a with
  | .ptr id off => ∃ cs, o.sget S id = some (.cells cs) ∧ optK (partOf ctx t cs off) K
  | .iptr cs off => optK (partOf ctx t cs off) K
  | _ => False

theorem loadK_ok (ctx : Ctx) (t : TypeId) (a : PV) (S : List SObj) (K : PV → Prop) (h : loadK o ctx t a S K) : ∃ v, loadO o ctx t a S = some v ∧ K v := by
  cases a <;> try exact h.elim
  · obtain ⟨cs, h1, h2⟩ := h
    simp only [loadO, h1]; exact optK_of h2
  · exact optK_of h

def storeK (ctx : Ctx) (base : Nat) (t : TypeId) (a x : PV) (S : List SObj) (K : List SObj → Bool → Prop) : Prop :=
  match a with
  | .ptr id off =>
    match ctx.ty t with
    | some ti => ∃ cs, o.sget S id = some (.cells cs) ∧
      (if x.storable = false ∨ x.cells.length ≠ ti.size ∨ off + ti.size > cs.length then False
      else K (o.sset S id (.cells (cs.take off ++ x.cells ++ cs.drop (off + ti.size)))) (o.esc id base x))
    | none => False
  | _ => False

theorem storeK_ok (ctx : Ctx) (base : Nat) (t : TypeId) (a x : PV) (S : List SObj) (K : List SObj → Bool → Prop) (h : storeK o ctx base t a x S K) : ∃ p, storeO o ctx base t a x S = some p ∧ K p.1 p.2 := by
  cases a <;> try exact h.elim
  simp only [storeK] at h
  simp only [storeO]
  split at h
  · rename_i ti ht
    obtain ⟨cs, h1, h2⟩ := h
    split at h2
    · exact h2.elim
    · rename_i hb
      simp only [h1, ht, if_neg hb]
      exact ⟨_, rfl, h2⟩
  · exact h.elim

def stepK (ctx : Ctx) (cp : CallP) (base : Nat) (σ : Nat → PV) (S : List SObj) (op : Op) (K : KV) : Prop :=
  match op with
  | .move x => K (opd σ x) S false
  | .assign x => K (opd σ x) S false
  | .pick c a b => match opd σ c with
    | .bool t => if t then K (opd σ a) S false else K (opd σ b) S false
    | _ => False
  | .alloc t => match ctx.ty t with
    | some ti => if ti.zero.storable then K (.ptr (o.sn S) 0) (o.spush S (.cells ti.zero.cells)) false else False
    | none => False
  | .box _ x => if (opd σ x).storable then K (.ptr (o.sn S) 0) (o.spush S (.cells (opd σ x).cells)) false else False
  | .build t ps => optK (buildPV ctx t (ps.toList.map fun p => (p.1, opd σ p.2))) fun v => K v S false
  | .buildSlice t n ps => optK (buildSlicePV ctx t n (ps.toList.map fun p => (p.1, opd σ p.2))) fun v => K v S false
  | .load t a => loadK o ctx t (opd σ a) S fun v => K v S false
  | .store t a x => storeK o ctx base t (opd σ a) (opd σ x) S fun S' e => K (.tup []) S' e
  | .nilCheck x => match opd σ x with
    | .ptr i o => K (.ptr i o) S false
    | .iptr cs o => K (.iptr cs o) S false
    | .ifc t v => K (.ifc t v) S false
    | .fn (.func f) a b => K (.fn (.func f) a b) S false
    | _ => False
  | .binOp op t x y _ => binK o ctx op t x y (opd σ x) (opd σ y) fun v => K v S false
  | .unOp .not _ x => match opd σ x with
    | .bool b => if b then K (.bool false) S false else K (.bool true) S false
    | _ => False
  | .unOp op _ x => optK (unO o op (opd σ x)) fun v => K v S false
  | .convert s d x => convK o ctx s d (opd σ x) S fun v S' => K v S' false
  | .makeInterface t x => match ctx.ty t with
    | some ti => match ti.und with
      | .interface _ => False
      | _ => K (.ifc t (opd σ x)) S false
    | none => False
  | .makeFunc f as bs => K (.fn f (as.toList.map (opd σ)) (bs.toList.map (opd σ))) S false
  | .makeSlice t l c => makeSliceK o ctx t (opd σ l) (opd σ c) S fun v S' => K v S' false
  | .slice t x lo hi mx => sliceK o ctx t (opd σ x) (lo.map (opd σ)) (hi.map (opd σ)) (mx.map (opd σ)) fun v => K v S false
  | .fieldAddr t x i => optK (fieldAddrPV ctx t (opd σ x) i) fun v => K v S false
  | .field t x i => match fieldsOf ctx t, opd σ x with
    | some fs, .agg cs => match fs[i]? with
      | some f => optK (partOf ctx f.type cs f.offset) fun v => K v S false
      | none => False
    | _, _ => False
  | .indexAddr t x i => match opd σ i with
    | .int _ n => indexAddrK o ctx t (opd σ x) n fun v => K v S false
    | _ => False
  | .index t x i => match opd σ i with
    | .int _ n => indexK o ctx t (opd σ x) n fun v => K v S false
    | _ => False
  | .typeAssert x _ t ok => optK (assertPV ctx (opd σ x) t ok) fun v => K v S false
  | .extract x i => match opd σ x with
    | .tup vs => optK (vs[i]?) fun v => K v S false
    | _ => False
  | .call c => callK o ctx cp σ S c K
  | _ => False

theorem stepK_ok (ctx : Ctx) {call : Call'} {cp : CallP} (hc : CpOk call cp) (base : Nat) (σ : Nat → PV) (S : List SObj) (op : Op) (K : KV) (h : stepK o ctx cp base σ S op K) :
    ∃ v S' e, stepO o ctx call base σ S op = some (v, S', e) ∧ K v S' e := by
  cases op
  case unOp op t x =>
    cases op
    case not =>
      simp only [stepK] at h
      simp only [stepO]
      split at h
      · rename_i b hb
        simp only [hb]
        cases b <;> exact ⟨_, _, _, rfl, h⟩
      · exact h.elim
    all_goals
      simp only [stepK] at h
      simp only [stepO]
      obtain ⟨v, g1, g2⟩ := optK_of h
      rw [g1]; exact ⟨_, _, _, rfl, g2⟩
  all_goals simp only [stepK] at h
  all_goals simp only [stepO]
  case pick c a b =>
    split at h
    · rename_i t ht
      rw [ht]
      cases t
      · exact ⟨_, _, _, rfl, h⟩
      · exact ⟨_, _, _, rfl, h⟩
    · exact h.elim
  case alloc t =>
    split at h
    · rename_i ti ht
      rw [ht]
      split at h
      · rename_i hz; simp only [hz, if_true]; exact ⟨_, _, _, rfl, h⟩
      · exact h.elim
    · exact h.elim
  case box t x =>
    split at h
    · rename_i hz; simp only [hz, if_true]; exact ⟨_, _, _, rfl, h⟩
    · exact h.elim
  case load t a =>
    obtain ⟨p, g1, g2⟩ := loadK_ok o _ _ _ _ _ h
    rw [g1]; exact ⟨_, _, _, rfl, g2⟩
  case store t a x =>
    obtain ⟨p, g1, g2⟩ := storeK_ok o _ _ _ _ _ _ _ h
    rw [g1]; exact ⟨_, _, _, rfl, g2⟩
  case nilCheck x =>
    split at h
    · rename_i hx; rw [hx]; exact ⟨_, _, _, rfl, h⟩
    · rename_i hx; rw [hx]; exact ⟨_, _, _, rfl, h⟩
    · rename_i hx; rw [hx]; exact ⟨_, _, _, rfl, h⟩
    · rename_i hx; rw [hx]; exact ⟨_, _, _, rfl, h⟩
    · exact h.elim
  case binOp op t x y u =>
    obtain ⟨v, g1, g2⟩ := binK_ok o _ _ _ _ _ _ _ _ h
    rw [g1]; exact ⟨_, _, _, rfl, g2⟩
  case convert s d x =>
    obtain ⟨v, g1, g2⟩ := convK_ok o _ _ _ _ _ _ h
    rw [g1]; exact ⟨_, _, _, rfl, g2⟩
  case makeInterface t x =>
    split at h
    · rename_i ti ht
      rw [ht]
      obtain ⟨und, _, _, _, _, _, _⟩ := ti
      cases und <;> first | exact h.elim | exact ⟨_, _, _, rfl, h⟩
    · exact h.elim
  case makeSlice t l c =>
    obtain ⟨v, g1, g2⟩ := makeSliceK_ok o _ _ _ _ _ _ h
    rw [g1]; exact ⟨_, _, _, rfl, g2⟩
  case slice t x lo hi mx =>
    obtain ⟨v, g1, g2⟩ := sliceK_ok o _ _ _ _ _ _ _ h
    rw [g1]; exact ⟨_, _, _, rfl, g2⟩
  case field t x i =>
    split at h
    · rename_i fs cs h1 h2
      rw [h1, h2]
      simp only
      split at h
      · rename_i f hf
        rw [hf]
        obtain ⟨v, g1, g2⟩ := optK_of h
        simp only [g1]; exact ⟨_, _, _, rfl, g2⟩
      · exact h.elim
    · exact h.elim
  case indexAddr t x i =>
    split at h
    · rename_i hi
      rw [hi]
      obtain ⟨v, g1, g2⟩ := indexAddrK_ok o _ _ _ _ _ h
      simp only [g1]; exact ⟨_, _, _, rfl, g2⟩
    · exact h.elim
  case index t x i =>
    split at h
    · rename_i hi
      rw [hi]
      obtain ⟨v, g1, g2⟩ := indexK_ok o _ _ _ _ _ h
      simp only [g1]; exact ⟨_, _, _, rfl, g2⟩
    · exact h.elim
  case extract x i =>
    split at h
    · rename_i hx
      rw [hx]
      obtain ⟨v, g1, g2⟩ := optK_of h
      simp only [g1]; exact ⟨_, _, _, rfl, g2⟩
    · exact h.elim
  case call c => exact callK_ok o ctx hc σ S c K h
  all_goals first
    | exact h.elim
    | exact ⟨_, _, _, rfl, h⟩
    | (obtain ⟨v, g1, g2⟩ := optK_of h; rw [g1]; exact ⟨_, _, _, rfl, g2⟩)
end Go.Pam
