/- The abstract machine with what comes behind handed in: whatever has to be told stands at the front. -/
import Derived.Test.YthcchjhieolflaaPam18
namespace Go.Pam

abbrev KV := PV → List SObj → Bool → Prop
abbrev CallP := FuncId → List PV → List SObj → KV → Prop

def optK {α : Type} (x : Option α) (K : α → Prop) : Prop := match x with
  | some v => K v
  | none => False

theorem optK_of {α : Type} {x : Option α} {K : α → Prop} (h : optK x K) : ∃ v, x = some v ∧ K v := by
  cases x with
  | none => exact h.elim
  | some v => exact ⟨v, rfl, h⟩

variable (o : Prim)

/-- '==' of two values whose parts are all told. -/
def eqBF (ctx : Ctx) (eq : TypeId → PV → PV → Option Bool) : List Field → List PV → List PV → Option Bool
  | [], _, _ => some true
  | f :: fs, xs, ys =>
    if f.name = "_" then eqBF ctx eq fs xs ys else
      match partOf ctx f.type xs f.offset, partOf ctx f.type ys f.offset with
      | some a, some b =>
        match eq f.type a b, eqBF ctx eq fs xs ys with
        | some p, some q => some (p && q)
        | _, _ => none
      | _, _ => none

def eqB (ctx : Ctx) : Nat → TypeId → PV → PV → Option Bool
  | 0, _, _, _ => none
  | d + 1, t, x, y =>
    match ctx.ty t with
    | none => none
    | some ti =>
      match ti.und, x, y with
      | .struct fields, .agg xs, .agg ys => if ti.eqok then eqBF ctx (eqB ctx d) fields.toList xs ys else none
      | _, x, y => eqO o ctx (d + 1) t x y

theorem eqBF_ok (ctx : Ctx) {e1 e2 : TypeId → PV → PV → Option Bool} (h12 : ∀ t x y b, e1 t x y = some b → e2 t x y = some b) : ∀ (fs : List Field) (xs ys : List PV) (b : Bool), eqBF ctx e1 fs xs ys = some b → eqFields ctx e2 fs xs ys = some b
  | [], xs, ys, b, h => h
  | f :: fs, xs, ys, b, h => by
    unfold eqBF at h
    unfold eqFields
    by_cases hf : f.name = "_"
    · rw [if_pos hf] at h ⊢
      exact eqBF_ok ctx h12 fs xs ys b h
    · rw [if_neg hf] at h ⊢
      split at h
      · rename_i a c ha hc
        split at h
        · rename_i p q hp hq
          injection h with h; subst h
          have h1 := h12 _ _ _ _ hp
          have h2 := eqBF_ok ctx h12 fs xs ys _ hq
          simp only [ha, hc, h1]
          cases p
          · rfl
          · simpa using h2
        · cases h
      · cases h

theorem eqB_ok (ctx : Ctx) : ∀ (d : Nat) (t : TypeId) (x y : PV) (b : Bool), eqB o ctx d t x y = some b → eqO o ctx d t x y = some b
  | 0, _, _, _, _, h => by simp [eqB] at h
  | d + 1, t, x, y, b, h => by
    unfold eqB at h
    cases ht : ctx.ty t with
    | none => rw [ht] at h; cases h
    | some ti =>
      rw [ht] at h
      simp only at h
      split at h
      · rename_i fields xs ys hu
        split at h
        case isFalse => cases h
        rename_i he
        unfold eqO
        simp only [ht, hu, he, if_true]
        exact eqBF_ok ctx (eqB_ok ctx d) _ _ _ _ h
      · exact h

def binK (ctx : Ctx) (op : BinOp) (t : TypeId) (xo yo : Operand) (x y : PV) (K : PV → Prop) : Prop :=
  match op, x, y with
  | .shl, .int k a, .int _ b => o.lt b 0 = false ∧ K (.int k (o.shl k a b))
  | .shr, .int k a, .int _ b => o.lt b 0 = false ∧ K (.int k (o.shr k a b))
  | .quo, .int k a, .int k' b => if k ≠ k' then False else o.eq b 0 = false ∧ K (.int k (o.quo k a b))
  | .rem, .int k a, .int k' b => if k ≠ k' then False else o.eq b 0 = false ∧ K (.int k (o.rem k a b))
  | .add, .str a, .str b => o.sfits a b = true ∧ K (.str (o.sapp a b))
  | op, .int k a, .int k' b => if k ≠ k' then False else optK (intO o op k a b) K
  | op, .str a, .str b => optK (strO o op a b) K
  | .eql, x, y => if eqGuardOk xo yo x y then optK (eqB o ctx 40 t x y) fun b => K (.bool b) else False
  | .neq, x, y => if eqGuardOk xo yo x y then optK (eqB o ctx 40 t x y) fun b => if b then K (.bool false) else K (.bool true) else False
  | _, _, _ => False

theorem binK_ok (ctx : Ctx) (op : BinOp) (t : TypeId) (xo yo : Operand) (x y : PV) (K : PV → Prop) (h : binK o ctx op t xo yo x y K) : ∃ v, binO o ctx op t xo yo x y = some v ∧ K v := by
  unfold binK at h
  split at h
  · exact ⟨_, by simp [binO, shiftO, h.1], h.2⟩
  · exact ⟨_, by simp [binO, shiftO, h.1], h.2⟩
  · split at h
    · exact h.elim
    · rename_i hk; exact ⟨_, by simp only [binO]; rw [if_neg hk]; simp [intO, h.1], h.2⟩
  · split at h
    · exact h.elim
    · rename_i hk; exact ⟨_, by simp only [binO]; rw [if_neg hk]; simp [intO, h.1], h.2⟩
  · exact ⟨_, by simp [binO, strO, h.1], h.2⟩
  · split at h
    · exact h.elim
    · rename_i hk
      obtain ⟨v, h1, h2⟩ := optK_of h
      refine ⟨v, ?_, h2⟩
      rename_i n1 n2 _ _ _
      cases op <;> first | (simp only [binO]; rw [if_neg hk]; exact h1) | (exact absurd rfl n1) | (simp [intO] at h1)
  · obtain ⟨v, h1, h2⟩ := optK_of h
    refine ⟨v, ?_, h2⟩
    cases op <;> first | exact h1 | (simp [strO] at h1)
  · split at h
    · rename_i hg
      obtain ⟨b, h1, h2⟩ := optK_of h
      refine ⟨_, ?_, h2⟩
      unfold binO
      split <;> simp_all [eqB_ok o ctx 40 t _ _ b h1]
      rename_i hx
      exact absurd rfl (hx _ _ _ _ rfl rfl rfl)
    · exact h.elim
  · split at h
    · rename_i hg
      obtain ⟨b, h1, h2⟩ := optK_of h
      refine ⟨.bool !b, ?_, by cases b <;> exact h2⟩
      unfold binO
      split <;> simp_all [eqB_ok o ctx 40 t _ _ b h1]
      rename_i hx
      exact absurd rfl (hx _ _ _ _ rfl rfl rfl)
    · exact h.elim
  · exact h.elim

def indexAddrK (ctx : Ctx) (t : TypeId) (x : PV) (i : Int) (K : PV → Prop) : Prop :=
  match ctx.ty t with
  | none => False
  | some ti =>
    match ti.und, x with
    | .slice e, .lst xs _ =>
      match ctx.ty e with
      | some ei => o.lin xs i = true ∧ ∃ cs, (o.lat xs i).cells = cs ∧ cs.length = ei.size ∧ K (.iptr cs 0)
      | none => False
    | .slice e, .hsl id off len =>
      match ctx.ty e with
      | some ei => o.nin i len = true ∧ K (.ptr id (off + o.mul2 i ei.size))
      | none => False
    | .array n e, .ptr id off =>
      match ctx.ty e with
      | some ei => o.nin i n = true ∧ K (.ptr id (off + o.mul2 i ei.size))
      | none => False
    | .array n e, .iptr cs off =>
      match ctx.ty e with
      | some ei => o.nin i n = true ∧ K (.iptr cs (off + o.mul2 i ei.size))
      | none => False
    | _, _ => False

theorem indexAddrK_ok (ctx : Ctx) (t : TypeId) (x : PV) (i : Int) (K : PV → Prop) (h : indexAddrK o ctx t x i K) : ∃ v, indexAddrO o ctx t x i = some v ∧ K v := by
  unfold indexAddrK at h
  unfold indexAddrO
  cases ht : ctx.ty t with
  | none => rw [ht] at h; exact h.elim
  | some ti =>
    rw [ht] at h
    obtain ⟨und, _, _, _, _, _, _⟩ := ti
    cases und <;> try exact h.elim
    · cases x <;> try exact h.elim
      · rename_i e xs tag
        simp only at h ⊢
        cases he : ctx.ty e with
        | none => rw [he] at h; exact h.elim
        | some ei =>
          rw [he] at h
          obtain ⟨h1, cs, h2, h3, h4⟩ := h
          subst h2
          simp only [h1, h3, if_true]
          exact ⟨_, rfl, h4⟩
      · rename_i e id off len
        simp only at h ⊢
        cases he : ctx.ty e with
        | none => rw [he] at h; exact h.elim
        | some ei =>
          rw [he] at h
          simp only [h.1, if_true]
          exact ⟨_, rfl, h.2⟩
    · cases x <;> try exact h.elim
      · rename_i n e id off
        simp only at h ⊢
        cases he : ctx.ty e with
        | none => rw [he] at h; exact h.elim
        | some ei =>
          rw [he] at h
          simp only [h.1, if_true]
          exact ⟨_, rfl, h.2⟩
      · rename_i n e id off
        simp only at h ⊢
        cases he : ctx.ty e with
        | none => rw [he] at h; exact h.elim
        | some ei =>
          rw [he] at h
          simp only [h.1, if_true]
          exact ⟨_, rfl, h.2⟩

def indexK (ctx : Ctx) (t : TypeId) (x : PV) (i : Int) (K : PV → Prop) : Prop :=
  match ctx.ty t with
  | none => False
  | some ti =>
    match ti.und, x with
    | .string, .str s => o.sin s i = true ∧ K (.int .u8 (o.sat s i))
    | .array n e, .agg cs =>
      match ctx.ty e with
      | some ei => o.nin i n = true ∧ optK (partOf ctx e cs (o.mul2 i ei.size)) K
      | none => False
    | _, _ => False

theorem indexK_ok (ctx : Ctx) (t : TypeId) (x : PV) (i : Int) (K : PV → Prop) (h : indexK o ctx t x i K) : ∃ v, indexO o ctx t x i = some v ∧ K v := by
  unfold indexK at h
  unfold indexO
  cases ht : ctx.ty t with
  | none => rw [ht] at h; exact h.elim
  | some ti =>
    rw [ht] at h
    obtain ⟨und, _, _, _, _, _, _⟩ := ti
    cases und <;> try exact h.elim
    · cases x <;> try exact h.elim
      simp only at h ⊢
      simp only [h.1, if_true]
      exact ⟨_, rfl, h.2⟩
    · cases x <;> try exact h.elim
      rename_i n e cs
      simp only at h ⊢
      cases he : ctx.ty e with
      | none => rw [he] at h; exact h.elim
      | some ei =>
        rw [he] at h
        simp only [h.1, if_true]
        exact optK_of h.2

def sliceK (ctx : Ctx) (t : TypeId) (x : PV) (lo hi mx : Option PV) (K : PV → Prop) : Prop :=
  match ctx.ty t with
  | none => False
  | some ti =>
    match ti.und, x, mx with
    | .string, .str s, none =>
      match boundO lo 0, boundO hi (o.slen s) with
      | some l, some h => o.ssubOk l h (o.slen s) = true ∧ K (.str (o.ssub s l h))
      | _, _ => False
    | .slice e, .lst xs tag, none =>
      match boundO lo 0, boundO hi (o.llen xs), ctx.ty e with
      | some l, some h, some ei =>
        o.ssubOk l h (o.llen xs) = true ∧
          (if o.lall l h xs then K (.lst xs tag) else o.lsized ei.size xs = true ∧ K (.lst (o.lsub xs l h) .none))
      | _, _, _ => False
    | .slice _, x, mx => optK (sliceO o ctx t x lo hi mx) K
    | .array _ _, x, mx => optK (sliceO o ctx t x lo hi mx) K
    | _, _, _ => False

theorem sliceK_ok (ctx : Ctx) (t : TypeId) (x : PV) (lo hi mx : Option PV) (K : PV → Prop) (h : sliceK o ctx t x lo hi mx K) : ∃ v, sliceO o ctx t x lo hi mx = some v ∧ K v := by
  unfold sliceK at h
  cases ht : ctx.ty t with
  | none => rw [ht] at h; exact h.elim
  | some ti =>
    rw [ht] at h
    simp only at h
    split at h
    · rename_i s hu
      unfold sliceO
      rw [ht]
      simp only [hu]
      split at h
      · rename_i l h' hl hh
        simp only [hl, hh, h.1, if_true]
        exact ⟨_, rfl, h.2⟩
      · exact h.elim
    · rename_i e xs tag hu
      unfold sliceO
      rw [ht]
      simp only [hu]
      split at h
      · rename_i l h' ei hl hh he
        simp only [hl, hh, he, h.1, if_true]
        obtain ⟨_, h2⟩ := h
        cases hb : o.lall l h' xs with
        | true => rw [hb] at h2; exact ⟨_, rfl, h2⟩
        | false =>
          rw [hb] at h2
          simp only [Bool.false_eq_true, if_false] at h2 ⊢
          simp only [h2.1, if_true]
          exact ⟨_, rfl, h2.2⟩
      · exact h.elim
    · exact optK_of h
    · exact optK_of h
    · exact h.elim
end Go.Pam
