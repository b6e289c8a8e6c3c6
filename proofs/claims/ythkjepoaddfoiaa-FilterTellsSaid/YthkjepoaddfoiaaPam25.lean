/- Plain data behind the abstract machine's values, and each operation on it. -/
import Derived.Test.YthkjepoaddfoiaaPam24
namespace Go.Pam
set_option linter.unusedVariables false
set_option linter.unusedSimpArgs false

abbrev Str := List UInt8
abbrev Sl (α : Type) := Option (List α)

def Sl.l {α : Type} (x : Sl α) : List α := x.getD []
def Sl.len {α : Type} (x : Sl α) : Int := (x.l.length : Nat)
def Sl.at? {α : Type} (x : Sl α) (i : Int) : Option α := if 0 ≤ i then x.l[i.toNat]? else none
def Sl.isNil {α : Type} (x : Sl α) : Bool := x.isNone
def Sl.sub? {α : Type} (x : Sl α) (l h : Int) : Option (Sl α) :=
  if 0 ≤ l ∧ l ≤ h ∧ h ≤ x.l.length then some (x.map fun xs => (xs.take h.toNat).drop l.toNat) else none
def Sl.app? {α : Type} (bytes : Nat) (x : Sl α) (ys : List α) : Option (Sl α) :=
  if (x.l.length + ys.length) * bytes ≤ 2 ^ 47 then some (if ys.isEmpty then x else some (x.l ++ ys)) else none

def Str.len (s : Str) : Int := (s.length : Nat)
def Str.at? (s : Str) (i : Int) : Option Int := if 0 ≤ i then (s[i.toNat]?).map fun b => (b.toNat : Int) else none
def Str.sub? (s : Str) (l h : Int) : Option Str := if 0 ≤ l ∧ l ≤ h ∧ h ≤ s.length then some ((s.take h.toNat).drop l.toNat) else none
def Str.app? (a b : Str) : Option Str := if ((a.length + b.length : Nat) : Int) > IntKind.i64.max then none else some (a ++ b)
def Str.bytes (s : Str) : Sl Int := some (s.map fun b => (b.toNat : Int))
def Str.of (x : Sl Int) : Str := x.l.map fun n => UInt8.ofNat n.toNat

def ad (k : IntKind) (x y : Int) : Int := k.wrap (x + y)
def sb (k : IntKind) (x y : Int) : Int := k.wrap (x - y)
def ml (k : IntKind) (x y : Int) : Int := k.wrap (x * y)
def ng (k : IntKind) (x : Int) : Int := k.wrap (0 - x)
def cv (k : IntKind) (x : Int) : Int := k.wrap x
def bAnd (k : IntKind) (x y : Int) : Int := k.wrap (BitVec.ofInt k.bits x &&& BitVec.ofInt k.bits y).toNat
def bOr (k : IntKind) (x y : Int) : Int := k.wrap (BitVec.ofInt k.bits x ||| BitVec.ofInt k.bits y).toNat
def bXor (k : IntKind) (x y : Int) : Int := k.wrap (BitVec.ofInt k.bits x ^^^ BitVec.ofInt k.bits y).toNat
def bNot (k : IntKind) (x y : Int) : Int := k.wrap (BitVec.ofInt k.bits x &&& ~~~BitVec.ofInt k.bits y).toNat
def quo? (k : IntKind) (x y : Int) : Option Int := if y = 0 then none else some (k.wrap (x.tdiv y))
def rem? (x y : Int) : Option Int := if y = 0 then none else some (x.tmod y)
def shl? (k : IntKind) (x y : Int) : Option Int := if y < 0 then none else some (k.wrap (x * 2 ^ (min y.toNat k.bits)))
def shr? (k : IntKind) (x y : Int) : Option Int := if y < 0 then none else some (x.fdiv (2 ^ (min y.toNat k.bits)))
def imin (x y : Int) : Int := if y < x then y else x
def imax (x y : Int) : Int := if x < y then y else x

theorem bindS {α β : Type} {x : Option α} {f : α → Option β} {r : β} (h : x.bind f = some r) : ∃ y, x = some y ∧ f y = some r := by
  cases x with
  | none => cases h
  | some a => exact ⟨a, rfl, h⟩

theorem iteS {α : Type} {c : Bool} {a b : Option α} {r : α} (h : (if c = true then a else b) = some r) : c = true ∧ a = some r ∨ c = false ∧ b = some r := by
  cases c
  · exact .inr ⟨rfl, h⟩
  · exact .inl ⟨rfl, h⟩

inductive Out (R V : Type) where
  | ret (r : R)
  | brk (v : V)

/-! Slices -/
abbrev eI (k : IntKind) (n : Int) : PV := .int k n
abbrev eB (b : Bool) : PV := .bool b
abbrev eS (s : Str) : PV := .str s
def encSl {α : Type} (f : α → PV) : Sl α → PV
  | none => .nils
  | some l => .lst (l.map f) .none

def IsSl {α : Type} (f : α → PV) (x : Sl α) (v : PV) : Prop := match x with
  | none => v = .nils
  | some l => ∃ tag, v = .lst (l.map f) tag

theorem isSl_enc {α : Type} (f : α → PV) (x : Sl α) : IsSl f x (encSl f x) := by
  cases x
  · rfl
  · exact ⟨_, rfl⟩

theorem isSl_nil {α : Type} (f : α → PV) : IsSl f none .nils := rfl

theorem IsSl.strip {α : Type} {f : α → PV} {x : Sl α} {v : PV} (h : IsSl f x v) : v.strip = encSl f x := by
  cases x
  · cases h; rfl
  · obtain ⟨tag, rfl⟩ := h; rfl
theorem IsSl.strip1 {α : Type} {f : α → PV} {x : Sl α} {v : PV} (h : IsSl f x v) : v.strip1 = encSl f x := by
  cases x
  · cases h; rfl
  · obtain ⟨tag, rfl⟩ := h; rfl
theorem IsSl.strip2 {α : Type} {f : α → PV} {x : Sl α} {v : PV} (h : IsSl f x v) : v.strip2 = encSl f x := by
  cases x
  · cases h; rfl
  · obtain ⟨tag, rfl⟩ := h; rfl
theorem strip_enc {α : Type} (f : α → PV) (x : Sl α) : (encSl f x).strip = encSl f x := (isSl_enc f x).strip
theorem strip1_enc {α : Type} (f : α → PV) (x : Sl α) : (encSl f x).strip1 = encSl f x := (isSl_enc f x).strip1
theorem strip2_enc {α : Type} (f : α → PV) (x : Sl α) : (encSl f x).strip2 = encSl f x := (isSl_enc f x).strip2

theorem cleanL_map {α : Type} {f : α → PV} (h : ∀ a, (f a).clean = true) : ∀ (l : List α), cleanL (l.map f) = true
  | [] => rfl
  | a :: l => by simp [cleanL, h a, cleanL_map h l]

theorem clean_encSl {α : Type} {f : α → PV} (h : ∀ a, (f a).clean = true) (x : Sl α) : (encSl f x).clean = true := by
  cases x with
  | none => rfl
  | some l => simp [encSl, PV.clean, cleanL_map h l]

def One (v : PV) : Prop := v.storable = true ∧ v.cells = [v]
theorem IsSl.one {α : Type} {f : α → PV} {x : Sl α} {v : PV} (h : IsSl f x v) : One v := by
  cases x
  · cases h; exact ⟨rfl, rfl⟩
  · obtain ⟨tag, rfl⟩ := h; exact ⟨rfl, rfl⟩

theorem sized_map {α : Type} {f : α → PV} {n : Nat} (h : ∀ a, (f a).cells.length = n) : ∀ (l : List α), sizedAll n (l.map f) = true
  | [] => rfl
  | a :: l => by simp [sizedAll, h a, sized_map h l]

variable {env : Env} {fr : Fr} {σ : Nat → PV} {S : List SObj}

theorem stp_len {α : Type} {f : α → PV} {x : Sl α} {v : PV} {a : Operand} {t : TypeId} {e : TypeId} (ho : opd σ a = v) (h : IsSl f x v) (ht : (env.ctx.ty t).map (·.und) = some (.slice e)) :
    stp env fr σ S (.call ⟨.builtin .len, #[a], #[t]⟩) = some (.int .i64 (Sl.len x), S, false) := by
  cases hti : env.ctx.ty t with
  | none => rw [hti] at ht; cases ht
  | some ti =>
    rw [hti] at ht
    have hu : ti.und = .slice e := by simpa using ht
    cases x with
    | none => cases h; simp [stp, evStep, callPV, ho, lenPV, hti, hu, Sl.len, Sl.l]
    | some l => obtain ⟨tag, rfl⟩ := h; simp [stp, evStep, callPV, ho, lenPV, hti, hu, Sl.len, Sl.l]

theorem stp_idxStr {s : Str} {a i : Operand} {t : TypeId} {k : IntKind} {n y : Int} (ho : opd σ a = .str s) (hi : opd σ i = .int k n) (ht : (env.ctx.ty t).map (·.und) = some .string) (hy : Str.at? s n = some y) :
    stp env fr σ S (.index t a i) = some (.int .u8 y, S, false) := by
  cases hti : env.ctx.ty t with
  | none => rw [hti] at ht; cases ht
  | some ti =>
    rw [hti] at ht
    have hu : ti.und = .string := by simpa using ht
    unfold Str.at? at hy
    split at hy
    · rename_i h0
      simp only [stp, evStep, hi, ho, indexPV, hti, hu, h0, if_true]
      cases hb : s[n.toNat]? with
      | none => rw [hb] at hy; cases hy
      | some b => rw [hb] at hy; simp only [Option.map_some, Option.some.injEq] at hy; subst hy; rfl
    · cases hy

theorem stp_idxAddr {α : Type} {f : α → PV} {x : Sl α} {v : PV} {a i : Operand} {t e : TypeId} {k : IntKind} {n : Int} {y : α} {sz : Nat} (ho : opd σ a = v) (h : IsSl f x v) (hi : opd σ i = .int k n)
    (ht : (env.ctx.ty t).map (·.und) = some (.slice e)) (he : (env.ctx.ty e).map (·.size) = some sz) (hy : Sl.at? x n = some y) {cs : List PV} (hcs : (f y).cells = cs) (hc : cs.length = sz) :
    stp env fr σ S (.indexAddr t a i) = some (.iptr cs 0, S, false) := by
  subst hcs
  cases hti : env.ctx.ty t with
  | none => rw [hti] at ht; cases ht
  | some ti =>
    rw [hti] at ht
    have hu : ti.und = .slice e := by simpa using ht
    cases hei : env.ctx.ty e with
    | none => rw [hei] at he; cases he
    | some ei =>
      rw [hei] at he
      have hs : ei.size = sz := by simpa using he
      unfold Sl.at? at hy
      split at hy
      · rename_i h0
        cases x with
        | none => simp [Sl.l] at hy
        | some l =>
          obtain ⟨tag, rfl⟩ := h
          simp only [Sl.l, Option.getD_some] at hy
          simp only [stp, evStep, hi, ho, indexAddrPV, hti, hu, hei, h0, if_true, List.getElem?_map, hy, Option.map_some, hc, hs]
      · cases hy

theorem stp_subStr {s y : Str} {a : Operand} {lo hi : Option Operand} {t : TypeId} {l h : Int} (ho : opd σ a = .str s) (hl : boundOf (lo.map (opd σ)) 0 = some l) (hh : boundOf (hi.map (opd σ)) s.length = some h)
    (ht : (env.ctx.ty t).map (·.und) = some .string) (hy : Str.sub? s l h = some y) :
    stp env fr σ S (.slice t a lo hi none) = some (.str y, S, false) := by
  cases hti : env.ctx.ty t with
  | none => rw [hti] at ht; cases ht
  | some ti =>
    rw [hti] at ht
    have hu : ti.und = .string := by simpa using ht
    unfold Str.sub? at hy
    split at hy
    · rename_i h0
      injection hy with hy; subst hy
      simp only [stp, evStep, ho, slicePV, hti, hu, hl, hh, Option.map_none]
      rw [if_pos h0]
      rfl
    · cases hy

theorem stp_subSl {α : Type} {f : α → PV} {x y : Sl α} {v : PV} {a : Operand} {lo hi : Option Operand} {t e : TypeId} {sz : Nat} {l h : Int} (ho : opd σ a = v) (hx : IsSl f x v)
    (hl : boundOf (lo.map (opd σ)) 0 = some l) (hh : boundOf (hi.map (opd σ)) x.l.length = some h)
    (ht : (env.ctx.ty t).map (·.und) = some (.slice e)) (he : (env.ctx.ty e).map (·.size) = some sz) (hc : ∀ a, (f a).cells.length = sz) (hy : Sl.sub? x l h = some y) :
    ∃ v', stp env fr σ S (.slice t a lo hi none) = some (v', S, false) ∧ IsSl f y v' := by
  cases hti : env.ctx.ty t with
  | none => rw [hti] at ht; cases ht
  | some ti =>
    rw [hti] at ht
    have hu : ti.und = .slice e := by simpa using ht
    cases hei : env.ctx.ty e with
    | none => rw [hei] at he; cases he
    | some ei =>
      rw [hei] at he
      have hs : ei.size = sz := by simpa using he
      unfold Sl.sub? at hy
      split at hy
      case isFalse => cases hy
      rename_i h0
      injection hy with hy; subst hy
      cases x with
      | none =>
        cases hx
        simp only [Sl.l, Option.getD_none, List.length_nil] at h0 hh
        refine ⟨.nils, ?_, rfl⟩
        simp only [stp, evStep, ho, slicePV, hti, hu, hei, hl, hh, Option.map_none]
        rw [if_pos (by omega)]
        rfl
      | some xs =>
        obtain ⟨tag, rfl⟩ := hx
        simp only [Sl.l, Option.getD_some] at h0 hh
        simp only [stp, evStep, ho, slicePV, hti, hu, hei, hl, Option.map_none, List.length_map, hh]
        rw [if_pos h0]
        split
        · rename_i h1
          refine ⟨_, rfl, tag, ?_⟩
          obtain ⟨rfl, rfl⟩ := h1
          simp
        · rw [hs, sized_map hc]
          exact ⟨_, rfl, .none, by simp [List.map_drop, List.map_take]⟩

/-! The heap -/
def tipOf : PV → Option Nat
  | .lst _ (.tip id) => some id
  | _ => none

inductive App (S : List SObj) (sz : Nat) : PV → Prop
  | nil : App S sz .nils
  | full (xs : List PV) (h : sizedAll sz xs = true) : App S sz (.lst xs .full)
  | tip (xs : List PV) (id : Nat) (h : S[id]? = some (.tip xs.length sz)) : App S sz (.lst xs (.tip id))

def SObj.kind : SObj → Nat
  | .cells _ => 0
  | .map _ => 0
  | .row _ _ _ => 1
  | .tip _ _ => 2
  | .dead => 3
  | .bld _ _ _ => 0
  | .buf _ _ => 1

def rowAt : PV → Option Nat
  | .rsl id _ => some id
  | .ptr id _ => some id
  | _ => none

structure Hp (S0 : List SObj) (R : List Nat) (S : List SObj) (C : List (Nat × SObj)) (A : List (PV × Nat)) (W : List (PV × SObj)) : Prop where
  len : S0.length ≤ S.length
  old : ∀ i, i < S0.length → i ∉ R → S[i]? = S0[i]?
  cel : ∀ p ∈ C, (S0.length ≤ p.1 ∨ p.1 ∈ R) ∧ S[p.1]? = some p.2 ∧ p.2.kind = 0
  nod : C.Pairwise fun p q => p.1 ≠ q.1
  app : ∀ q ∈ A, App S q.2 q.1 ∧ ∀ id, tipOf q.1 = some id → S0.length ≤ id
  dis : A.Pairwise fun p q => tipOf p.1 = none ∨ tipOf p.1 ≠ tipOf q.1
  row : ∀ q ∈ W, ∀ id, rowAt q.1 = some id → (S0.length ≤ id ∨ id ∈ R) ∧ S[id]? = some q.2 ∧ q.2.kind = 1
  rdis : W.Pairwise fun p q => rowAt p.1 = none ∨ rowAt p.1 ≠ rowAt q.1

theorem Hp.start (S0 : List SObj) : Hp S0 [] S0 [] [] [] := ⟨Nat.le_refl _, fun _ _ _ => rfl, by simp, .nil, by simp, .nil, by simp, .nil⟩

theorem Hp.start1 {S0 : List SObj} {id : Nat} {o : SObj} (h : S0[id]? = some o) (hk : o.kind = 0) : Hp S0 [id] S0 [(id, o)] [] [] :=
  ⟨Nat.le_refl _, fun _ _ _ => rfl, by simpa using ⟨h, hk⟩, by simp, by simp, .nil, by simp, .nil⟩

variable {S0 : List SObj} {R : List Nat} {C : List (Nat × SObj)} {A : List (PV × Nat)} {W : List (PV × SObj)}

theorem Hp.get (h : Hp S0 R S C A W) (i : Nat) {id : Nat} {o : SObj} (hi : C[i]? = some (id, o)) : S[id]? = some o :=
  (h.cel _ (List.mem_of_getElem? hi)).2.1

theorem Hp.getW (h : Hp S0 R S C A W) (i : Nat) {v : PV} {o : SObj} {id : Nat} (hi : W[i]? = some (v, o)) (hv : rowAt v = some id) : S[id]? = some o :=
  (h.row _ (List.mem_of_getElem? hi) id hv).2.1

theorem App.keep {S S' : List SObj} {sz : Nat} {v : PV} (h : App S sz v) (hk : ∀ id, tipOf v = some id → S'[id]? = S[id]?) : App S' sz v := by
  cases h with
  | nil => exact .nil
  | full xs h => exact .full xs h
  | tip xs id h => exact .tip xs id ((hk id rfl).trans h)

theorem App.lt {S : List SObj} {sz : Nat} {v : PV} (h : App S sz v) {id : Nat} (hi : tipOf v = some id) : id < S.length ∧ ∃ n, S[id]? = some (.tip n sz) := by
  cases h with
  | nil => cases hi
  | full xs h => cases hi
  | tip xs i h => injection hi with hi; subst hi; exact ⟨(List.getElem?_eq_some_iff.1 h).1, _, h⟩

theorem lt_of_get {S : List SObj} {i : Nat} {o : SObj} (h : S[i]? = some o) : i < S.length := (List.getElem?_eq_some_iff.1 h).1

theorem Hp.more (h : Hp S0 R S C A W) (o : SObj) : Hp S0 R (S ++ [o]) C A W := by
  have hl := h.len
  refine ⟨by simp; omega, fun i hi hr => ?_, fun p hp => ⟨(h.cel p hp).1, ?_, (h.cel p hp).2.2⟩, h.nod, fun q hq => ⟨(h.app q hq).1.keep fun id hid => ?_, (h.app q hq).2⟩, h.dis, fun q hq id hid => ⟨(h.row q hq id hid).1, ?_, (h.row q hq id hid).2.2⟩, h.rdis⟩
  · rw [List.getElem?_append_left (by omega)]; exact h.old i hi hr
  · rw [List.getElem?_append_left (lt_of_get (h.cel p hp).2.1)]; exact (h.cel p hp).2.1
  · rw [List.getElem?_append_left ((h.app q hq).1.lt hid).1]
  · rw [List.getElem?_append_left (lt_of_get (h.row q hq id hid).2.1)]; exact (h.row q hq id hid).2.1

theorem Hp.pushO (h : Hp S0 R S C A W) (o : SObj) (hk : o.kind = 0) : Hp S0 R (S ++ [o]) ((S.length, o) :: C) A W := by
  have hn := h.more o
  refine ⟨hn.len, hn.old, fun p hp => ?_, List.pairwise_cons.2 ⟨fun p hp => ?_, h.nod⟩, hn.app, hn.dis, hn.row, hn.rdis⟩
  · rcases List.mem_cons.1 hp with rfl | hp
    · exact ⟨.inl h.len, by simp, hk⟩
    · exact hn.cel p hp
  · have := lt_of_get (h.cel p hp).2.1; simp; omega

theorem Hp.push (h : Hp S0 R S C A W) (cs : List PV) : Hp S0 R (S ++ [.cells cs]) ((S.length, .cells cs) :: C) A W := h.pushO _ rfl

theorem mem_set_of {α : Type} {l : List α} {i : Nat} {x y : α} (h : y ∈ l.set i x) : y = x ∨ ∃ j, j ≠ i ∧ l[j]? = some y := by
  obtain ⟨j, hj⟩ := List.mem_iff_getElem?.1 h
  rw [List.getElem?_set] at hj
  split at hj
  · split at hj
    · injection hj with hj; exact .inl hj.symm
    · cases hj
  · rename_i hne; exact .inr ⟨j, fun h => hne h.symm, hj⟩

theorem pw_get {α : Type} {P : α → α → Prop} {l : List α} (h : l.Pairwise P) (hs : ∀ a b, P a b → P b a) {i j : Nat} {a b : α} (hi : l[i]? = some a) (hj : l[j]? = some b) (hne : i ≠ j) : P a b := by
  obtain ⟨h1, rfl⟩ := List.getElem?_eq_some_iff.1 hi
  obtain ⟨h2, rfl⟩ := List.getElem?_eq_some_iff.1 hj
  rcases Nat.lt_or_gt_of_ne hne with hlt | hlt
  · exact List.pairwise_iff_getElem.1 h i j h1 h2 hlt
  · exact hs _ _ (List.pairwise_iff_getElem.1 h j i h2 h1 hlt)

theorem pw_set {α : Type} {P : α → α → Prop} (hs : ∀ a b, P a b → P b a) {l : List α} (h : l.Pairwise P) {i : Nat} {x : α} (hx : ∀ j y, j ≠ i → l[j]? = some y → P x y) : (l.set i x).Pairwise P := by
  rw [List.pairwise_iff_getElem]
  intro a b ha hb hab
  have ha' : a < l.length := by simpa using ha
  have hb' : b < l.length := by simpa using hb
  rw [List.getElem_set, List.getElem_set]
  split
  · rename_i h1
    split
    · omega
    · rename_i h2
      exact hx b _ (by omega) (List.getElem?_eq_getElem hb')
  · split
    · rename_i h1 h2
      exact hs _ _ (hx a _ (by omega) (List.getElem?_eq_getElem ha'))
    · exact List.pairwise_iff_getElem.1 h a b ha' hb' hab

theorem Hp.setO (h : Hp S0 R S C A W) (i : Nat) {id : Nat} {o : SObj} (hi : C[i]? = some (id, o)) (o' : SObj) (hk : o'.kind = 0) : Hp S0 R (S.set id o') (C.set i (id, o')) A W := by
  have hg := h.get i hi
  have hlt := lt_of_get hg
  have hm := h.cel _ (List.mem_of_getElem? hi)
  have hm0 : o.kind = 0 := hm.2.2
  refine ⟨by simpa using h.len, fun j hj hr => ?_, ?_, ?_, fun q hq => ⟨(h.app q hq).1.keep fun k hk => ?_, (h.app q hq).2⟩, h.dis, fun q hq k hk => ⟨(h.row q hq k hk).1, ?_, (h.row q hq k hk).2.2⟩, h.rdis⟩
  · rw [List.getElem?_set]
    split
    · rename_i he; subst he
      rcases hm.1 with h1 | h1
      · simp only at h1; omega
      · exact absurd h1 hr
    · exact h.old j hj hr
  · intro p hp
    rcases mem_set_of hp with rfl | ⟨j, hne, hj⟩
    · exact ⟨hm.1, by simp [hlt], hk⟩
    · have hp' := h.cel p (List.mem_of_getElem? hj)
      refine ⟨hp'.1, ?_, hp'.2.2⟩
      have : p.1 ≠ id := pw_get (P := fun p q : Nat × SObj => p.1 ≠ q.1) h.nod (fun _ _ h => Ne.symm h) hj hi hne
      rw [List.getElem?_set, if_neg (Ne.symm this)]
      exact hp'.2.1
  · exact pw_set (fun _ _ h => Ne.symm h) h.nod fun j y hne hj => (show id ≠ y.1 from Ne.symm (pw_get (P := fun p q : Nat × SObj => p.1 ≠ q.1) h.nod (fun _ _ h => Ne.symm h) hj hi hne))
  · obtain ⟨_, n, hn⟩ := (h.app q hq).1.lt hk
    have : id ≠ k := by rintro rfl; rw [hn] at hg; injection hg with hg; subst hg; cases hm0
    rw [List.getElem?_set, if_neg this]
  · obtain ⟨_, hn, hk1⟩ := h.row q hq k hk
    have : id ≠ k := by rintro rfl; rw [hn] at hg; injection hg with hg; subst hg; omega
    rw [List.getElem?_set, if_neg this]; exact hn

theorem Hp.set (h : Hp S0 R S C A W) (i : Nat) {id : Nat} {cs : List PV} (hi : C[i]? = some (id, .cells cs)) (cs' : List PV) : Hp S0 R (S.set id (.cells cs')) (C.set i (id, .cells cs')) A W := h.setO i hi _ rfl

theorem Hp.sub (h : Hp S0 R S C A W) {C' : List (Nat × SObj)} {A' : List (PV × Nat)} {W' : List (PV × SObj)} (hC : C'.Sublist C) (hA : A'.Sublist A) (hW : W'.Sublist W) : Hp S0 R S C' A' W' :=
  ⟨h.len, h.old, fun p hp => h.cel p (hC.subset hp), h.nod.sublist hC, fun q hq => h.app q (hA.subset hq), h.dis.sublist hA, fun q hq => h.row q (hW.subset hq), h.rdis.sublist hW⟩

theorem Hp.addNil (h : Hp S0 R S C A W) (sz : Nat) : Hp S0 R S C ((.nils, sz) :: A) W :=
  by
    refine { h with app := fun q hq => ?_, dis := List.pairwise_cons.2 ⟨fun _ _ => .inl rfl, h.dis⟩ }
    rcases List.mem_cons.1 hq with rfl | hq
    · exact ⟨.nil, fun id hi => by cases hi⟩
    · exact h.app q hq

theorem Hp.addFull (h : Hp S0 R S C A W) (xs : List PV) (sz : Nat) (hs : sizedAll sz xs = true) : Hp S0 R S C ((.lst xs .full, sz) :: A) W :=
  by
    refine { h with app := fun q hq => ?_, dis := List.pairwise_cons.2 ⟨fun _ _ => .inl rfl, h.dis⟩ }
    rcases List.mem_cons.1 hq with rfl | hq
    · exact ⟨.full xs hs, fun id hi => by cases hi⟩
    · exact h.app q hq

theorem Hp.addTip (h : Hp S0 R S C A W) (xs : List PV) (sz : Nat) : Hp S0 R (S ++ [.tip xs.length sz]) C ((.lst xs (.tip S.length), sz) :: A) W := by
  have hn := h.more (.tip xs.length sz)
  have hl := h.len
  refine { hn with app := fun q hq => ?_, dis := List.pairwise_cons.2 ⟨fun q hq => .inr fun he => ?_, h.dis⟩ }
  · rcases List.mem_cons.1 hq with rfl | hq
    · exact ⟨.tip xs _ (by simp), fun id hi => by injection hi with hi; omega⟩
    · exact hn.app q hq
  · have := ((h.app q hq).1.lt (id := S.length) he.symm).1
    omega

theorem Hp.remA (h : Hp S0 R S C A W) (j : Nat) : Hp S0 R S C (A.eraseIdx j) W := h.sub (List.Sublist.refl _) (List.eraseIdx_sublist ..) (List.Sublist.refl _)

theorem app_mem {q : PV × Nat} {j : Nat} (hj : A[j]? = some q) : q ∈ A := List.mem_of_getElem? hj

theorem tips_dis (h : Hp S0 R S C A W) {j : Nat} {v : PV} {sz id : Nat} (hj : A[j]? = some (v, sz)) (hv : tipOf v = some id) : ∀ k q, k ≠ j → A[k]? = some q → tipOf q.1 ≠ some id := by
  intro k q hne hk he
  have := pw_get (P := fun p q : PV × Nat => tipOf p.1 = none ∨ tipOf q.1 = none ∨ tipOf p.1 ≠ tipOf q.1) (l := A)
    (h.dis.imp fun {a b} hab => hab.elim .inl fun h => .inr (.inr h)) (fun a b hab => by
      rcases hab with h | h | h
      · exact .inr (.inl h)
      · exact .inl h
      · exact .inr (.inr (Ne.symm h))) hk hj hne
  rcases this with h | h | h
  · rw [h] at he; cases he
  · simp only at h; rw [hv] at h; cases h
  · simp only [hv] at h; exact h he

theorem pw_opt {α : Type} {f : α → Option Nat} {l : List α} (h : l.Pairwise fun p q => f p = none ∨ f p ≠ f q) {i : Nat} {x : α} (hx : ∀ n, f x = some n → ∀ k q, k ≠ i → l[k]? = some q → f q ≠ some n) : (l.set i x).Pairwise fun p q => f p = none ∨ f p ≠ f q := by
  rw [List.pairwise_iff_getElem]
  intro a b ha hb' hab
  have ha2 : a < l.length := by simpa using ha
  have hb2 : b < l.length := by simpa using hb'
  rw [List.getElem_set, List.getElem_set]
  split
  · rename_i h1
    split
    · omega
    · cases hn : f x with
      | none => exact .inl rfl
      | some n => exact .inr fun he => hx n hn b _ (by omega) (List.getElem?_eq_getElem hb2) he.symm
  · split
    · rename_i h1 h2
      cases hn : f x with
      | none =>
        cases hq : f l[a] with
        | none => exact .inl rfl
        | some n => exact .inr fun he => by cases he
      | some n => exact .inr fun he => hx n hn a _ (by omega) (List.getElem?_eq_getElem ha2) he
    · exact List.pairwise_iff_getElem.1 h a b ha2 hb2 hab

theorem Hp.grow (h : Hp S0 R S C A W) (j : Nat) {xs : List PV} {id sz : Nat} (hj : A[j]? = some (.lst xs (.tip id), sz)) (ys : List PV) :
    Hp S0 R (S.set id (.tip (xs.length + ys.length) sz)) C (A.set j (.lst (xs ++ ys) (.tip id), sz)) W := by
  have hm := h.app _ (app_mem hj)
  obtain ⟨hlt, n, hn⟩ := hm.1.lt (id := id) rfl
  have hb := hm.2 id rfl
  have hdis := tips_dis h hj (id := id) rfl
  refine ⟨by simpa using h.len, fun i hi hr => ?_, fun p hp => ⟨(h.cel p hp).1, ?_, (h.cel p hp).2.2⟩, h.nod, ?_, pw_opt h.dis (x := (PV.lst (xs ++ ys) (.tip id), sz)) fun n hn k q hne hk => by injection hn with hn; subst hn; exact hdis k q hne hk,
    fun q hq k hk => ⟨(h.row q hq k hk).1, ?_, (h.row q hq k hk).2.2⟩, h.rdis⟩
  · rw [List.getElem?_set, if_neg (by omega)]; exact h.old i hi hr
  · obtain ⟨_, hc, hk⟩ := h.cel p hp
    have : id ≠ p.1 := by rintro rfl; rw [hc] at hn; injection hn with hn; rw [hn] at hk; cases hk
    rw [List.getElem?_set, if_neg this]; exact hc
  · intro q hq
    rcases mem_set_of hq with rfl | ⟨k, hne, hk⟩
    · exact ⟨.tip _ _ (by simp [hlt]), fun i hi => by injection hi with hi; omega⟩
    · have := h.app q (app_mem hk)
      refine ⟨this.1.keep fun i hi => ?_, this.2⟩
      have : id ≠ i := by rintro rfl; exact hdis k q hne hk hi
      rw [List.getElem?_set, if_neg this]
  · obtain ⟨_, hc, hkk⟩ := h.row q hq k hk
    have : id ≠ k := by rintro rfl; rw [hc] at hn; injection hn with hn; rw [hn] at hkk; cases hkk
    rw [List.getElem?_set, if_neg this]; exact hc

theorem Hp.repl (h : Hp S0 R S C A W) (j : Nat) {sz : Nat} (xs : List PV) :
    Hp S0 R (S ++ [.tip xs.length sz]) C (A.set j (.lst xs (.tip S.length), sz)) W := by
  have hn := h.addTip xs sz
  have lt : ∀ q ∈ A, tipOf q.1 ≠ some S.length := fun q hq he => by have := ((h.app q hq).1.lt he).1; omega
  refine { hn with app := fun q hq => ?_, dis := pw_opt h.dis (x := (PV.lst xs (.tip S.length), sz)) fun n hn k q _ hk => by injection hn with hn; subst hn; exact lt q (app_mem hk) }
  rcases mem_set_of hq with rfl | ⟨k, hne, hk⟩
  · exact hn.app _ List.mem_cons_self
  · exact hn.app q (List.mem_cons_of_mem _ (app_mem hk))

/-! Rows that may be written to -/
theorem Hp.addNoW (h : Hp S0 R S C A W) (v : PV) (o : SObj) (hv : rowAt v = none) : Hp S0 R S C A ((v, o) :: W) :=
  by
    refine { h with row := fun q hq id hid => ?_, rdis := List.pairwise_cons.2 ⟨fun _ _ => .inl hv, h.rdis⟩ }
    rcases List.mem_cons.1 hq with rfl | hq
    · rw [hv] at hid; cases hid
    · exact h.row q hq id hid

theorem Hp.addW (h : Hp S0 R S C A W) (n : Nat) (o : SObj) (hk : o.kind = 1) : Hp S0 R (S ++ [o]) C A ((.rsl S.length n, o) :: W) := by
  have hn := h.more o
  refine { hn with row := fun q hq id hid => ?_, rdis := List.pairwise_cons.2 ⟨fun q hq => .inr fun he => ?_, h.rdis⟩ }
  · rcases List.mem_cons.1 hq with rfl | hq
    · injection hid with hid; subst hid
      exact ⟨.inl h.len, by simp, hk⟩
    · exact hn.row q hq id hid
  · have := lt_of_get (h.row q hq S.length he.symm).2.1
    omega

theorem rows_dis (h : Hp S0 R S C A W) {j : Nat} {v : PV} {o : SObj} {id : Nat} (hj : W[j]? = some (v, o)) (hv : rowAt v = some id) : ∀ k q, k ≠ j → W[k]? = some q → rowAt q.1 ≠ some id := by
  intro k q hne hk he
  have := pw_get (P := fun p q : PV × SObj => rowAt p.1 = none ∨ rowAt q.1 = none ∨ rowAt p.1 ≠ rowAt q.1) (l := W)
    (h.rdis.imp fun {a b} hab => hab.elim .inl fun h => .inr (.inr h)) (fun a b hab => by
      rcases hab with h | h | h
      · exact .inr (.inl h)
      · exact .inl h
      · exact .inr (.inr (Ne.symm h))) hk hj hne
  rcases this with h | h | h
  · rw [h] at he; cases he
  · simp only at h; rw [hv] at h; cases h
  · simp only [hv] at h; exact h he

theorem Hp.setW (h : Hp S0 R S C A W) (j : Nat) {v : PV} {o : SObj} {id : Nat} (hj : W[j]? = some (v, o)) (hv : rowAt v = some id) (o' : SObj) (hk : o'.kind = 1) : Hp S0 R (S.set id o') C A (W.set j (v, o')) := by
  obtain ⟨hm, hg, hm1⟩ := h.row _ (List.mem_of_getElem? hj) id hv
  have hlt := lt_of_get hg
  have hm1 : o.kind = 1 := hm1
  have hdis := rows_dis h hj hv
  refine ⟨by simpa using h.len, fun i hi hr => ?_, fun p hp => ⟨(h.cel p hp).1, ?_, (h.cel p hp).2.2⟩, h.nod, fun q hq => ⟨(h.app q hq).1.keep fun k hk => ?_, (h.app q hq).2⟩, h.dis, fun q hq k hk2 => ?_,
    pw_opt h.rdis (x := (v, o')) fun n hn k q hne hk => by rw [hv] at hn; injection hn with hn; subst hn; exact hdis k q hne hk⟩
  · rw [List.getElem?_set]
    split
    · rename_i he; subst he
      rcases hm with h1 | h1
      · omega
      · exact absurd h1 hr
    · exact h.old i hi hr
  · obtain ⟨_, hc, hck⟩ := h.cel p hp
    have : id ≠ p.1 := by rintro rfl; rw [hc] at hg; injection hg with hg; rw [hg] at hck; omega
    rw [List.getElem?_set, if_neg this]; exact hc
  · obtain ⟨_, n, hn⟩ := (h.app q hq).1.lt hk
    have : id ≠ k := by rintro rfl; rw [hn] at hg; injection hg with hg; subst hg; cases hm1
    rw [List.getElem?_set, if_neg this]
  · rcases mem_set_of hq with rfl | ⟨i, hne, hi⟩
    · simp only at hk2
      rw [hv] at hk2; injection hk2 with hk2; subst hk2
      exact ⟨hm, by simp [hlt], hk⟩
    · obtain ⟨h1, h2, h3⟩ := h.row q (List.mem_of_getElem? hi) k hk2
      refine ⟨h1, ?_, h3⟩
      have : id ≠ k := by rintro rfl; exact hdis i q hne hi hk2
      rw [List.getElem?_set, if_neg this]; exact h2

theorem Hp.growW (h : Hp S0 R S C A W) (j : Nat) {v : PV} {o : SObj} {id : Nat} (hj : W[j]? = some (v, o)) (hv : rowAt v = some id) (n : Nat) (o' : SObj) (hk : o'.kind = 1) : Hp S0 R (S.set id .dead ++ [o']) C A (W.set j (.rsl S.length n, o')) := by
  obtain ⟨hm, hg, hm1⟩ := h.row _ (List.mem_of_getElem? hj) id hv
  have hlt := lt_of_get hg
  have hm1 : o.kind = 1 := hm1
  have hdis := rows_dis h hj hv
  have hlen := h.len
  have old : ∀ k, k < S.length → k ≠ id → (S.set id .dead ++ [o'])[k]? = S[k]? := fun k hk hne => by
    rw [List.getElem?_append_left (by simpa using hk), List.getElem?_set, if_neg (Ne.symm hne)]
  refine ⟨by simp; omega, fun i hi hr => ?_, fun p hp => ⟨(h.cel p hp).1, ?_, (h.cel p hp).2.2⟩, h.nod, fun q hq => ⟨(h.app q hq).1.keep fun k hk => ?_, (h.app q hq).2⟩, h.dis, fun q hq k hk2 => ?_,
    pw_opt h.rdis (x := (PV.rsl S.length n, o')) fun n hn k q hne hk he => by injection hn with hn; subst hn; have := lt_of_get (h.row q (List.mem_of_getElem? hk) _ he).2.1; omega⟩
  · have hne : i ≠ id := by
      rintro rfl
      rcases hm with h1 | h1
      · omega
      · exact hr h1
    rw [old i (by omega) hne]
    exact h.old i hi hr
  · obtain ⟨_, hc, hck⟩ := h.cel p hp
    rw [old _ (lt_of_get hc) (by rintro rfl; rw [hc] at hg; injection hg with hg; rw [hg] at hck; omega)]; exact hc
  · obtain ⟨hl, n, hn⟩ := (h.app q hq).1.lt hk
    rw [old _ hl (by rintro rfl; rw [hn] at hg; injection hg with hg; subst hg; cases hm1)]
  · rcases mem_set_of hq with rfl | ⟨i, hne, hi⟩
    · injection hk2 with hk2; subst hk2
      exact ⟨.inl hlen, by rw [List.getElem?_append_right (by simp)]; simp, hk⟩
    · obtain ⟨h1, h2, h3⟩ := h.row q (List.mem_of_getElem? hi) k hk2
      refine ⟨h1, ?_, h3⟩
      rw [old _ (lt_of_get h2) (by rintro rfl; exact hdis i q hne hi hk2)]; exact h2

def growPV (ei : TyI) (v : PV) (ys : List PV) (S : List SObj) : Option (PV × List SObj) := match v with
  | .nils => if ys.length * ei.bytes ≤ 2 ^ 47 then some (.lst ys (.tip S.length), S ++ [.tip ys.length ei.size]) else none
  | .lst xs .full => if (xs.length + ys.length) * ei.bytes ≤ 2 ^ 47 ∧ sizedAll ei.size xs then some (.lst (xs ++ ys) (.tip S.length), S ++ [.tip (xs.length + ys.length) ei.size]) else none
  | .rsl id len =>
    match S[id]? with
    | some (.row xs sz false) => if len = xs.length ∧ sz = ei.size ∧ (xs.length + ys.length) * ei.bytes ≤ 2 ^ 47 then some (.rsl S.length (xs.length + ys.length), S.set id .dead ++ [.row (xs ++ ys) sz false]) else none
    | _ => none
  | .lst xs (.tip id) =>
    match S[id]? with
    | some (.tip hw sz) => if hw = xs.length ∧ sz = ei.size ∧ (xs.length + ys.length) * ei.bytes ≤ 2 ^ 47 then some (.lst (xs ++ ys) (.tip id), S.set id (.tip (xs.length + ys.length) sz)) else none
    | _ => none
  | _ => none

theorem stp_app {α : Type} {f : α → PV} {x y z : Sl α} {v w : PV} {a b : Operand} {t u e : TypeId} {ei : TyI} (H : Hp S0 R S C A W) (j : Nat) (hj : A[j]? = some (v, ei.size))
    (ho : opd σ a = v) (hx : IsSl f x v) (hb : opd σ b = w) (hw : IsSl f y w)
    (ht : (env.ctx.ty t).map (·.und) = some (.slice e)) (hu : (env.ctx.ty u).map (·.und) = some (.slice e)) (he : env.ctx.ty e = some ei)
    (hok : (decide (ei.size ≠ 0) && decide (ei.bytes ≠ 0) && ei.zero.storable && decide (ei.zero.cells.length = ei.size)) = true)
    (hc : ∀ a, (f a).cells.length = ei.size) (hz : Sl.app? ei.bytes x y.l = some z) :
    ∃ v' S', stp env fr σ S (.call ⟨.builtin .append, #[a, b], #[t, u]⟩) = some (v', S', false) ∧ IsSl f z v' ∧ Hp S0 R S' C (A.set j (v', ei.size)) W := by
  simp only [Bool.and_eq_true, decide_eq_true_eq] at hok
  obtain ⟨⟨⟨k1, k2⟩, k3⟩, k4⟩ := hok
  cases hti : env.ctx.ty t with
  | none => rw [hti] at ht; cases ht
  | some ti =>
  rw [hti] at ht
  have ht' : ti.und = .slice e := by simpa using ht
  cases hui : env.ctx.ty u with
  | none => rw [hui] at hu; cases hu
  | some ui =>
  rw [hui] at hu
  have hu' : ui.und = .slice e := by simpa using hu
  unfold Sl.app? at hz
  split at hz
  case isFalse => cases hz
  rename_i hfit
  injection hz with hz
  have hlist : listOf w = some (y.l.map f) := by
    cases y with
    | none => cases hw; rfl
    | some l => obtain ⟨tag, rfl⟩ := hw; rfl
  have happ := (H.app _ (app_mem hj)).1
  cases hemp : y.l.isEmpty with
  | true =>
    rw [hemp] at hz
    simp only [if_true] at hz
    subst hz
    have hnil : y.l = [] := by simpa using hemp
    have hsl : isSlice v = true := by cases happ <;> rfl
    refine ⟨v, S, ?_, hx, ?_⟩
    · simp only [stp, evStep, callPV, List.map_cons, List.map_nil, ho, hb, appendPV, hlist]
      simp [hti, hui, ht', hu', he, hnil, hsl]
    · have : A.set j (v, ei.size) = A := by
        apply List.ext_getElem?
        intro i
        rw [List.getElem?_set]
        split
        · rename_i hi; subst hi; rw [hj]; split
          · rfl
          · have := (List.getElem?_eq_some_iff.1 hj).1; omega
        · rfl
      rw [this]; exact H
  | false =>
    rw [hemp] at hz
    simp only [Bool.false_eq_true, if_false] at hz
    subst hz
    have hne : (y.l.map f).isEmpty = false := by simpa using hemp
    have hsz := sized_map hc y.l
    have cond : ¬ (sizedAll ei.size (y.l.map f) = false ∨ ei.size = 0 ∨ ei.bytes = 0 ∨ ei.zero.storable = false ∨ ei.zero.cells.length ≠ ei.size) := by
      rw [hsz]; simp [k1, k2, k3, k4]
    have red : stp env fr σ S (.call ⟨.builtin .append, #[a, b], #[t, u]⟩) = (growPV ei v (y.l.map f) S).map fun (v, S') => (v, S', false) := by
      simp only [stp, evStep, callPV, List.map_cons, List.map_nil, ho, hb, appendPV]
      simp only [List.getElem?_toArray, List.getElem?_cons_zero, List.getElem?_cons_succ, hti, hui, hlist, ht', hu', he, hne, Bool.false_eq_true, if_false]
      rw [if_neg cond]
      rfl
    rw [red]
    cases x with
    | none =>
      cases hx
      refine ⟨.lst (y.l.map f) (.tip S.length), S ++ [.tip (y.l.map f).length ei.size], ?_, ⟨.tip S.length, by simp [Sl.l]⟩, ?_⟩
      · have hfit : y.l.length * ei.bytes ≤ 2 ^ 47 := by have h := hfit; rw [show (Sl.l (none : Sl α)).length = 0 from rfl, Nat.zero_add] at h; exact h
        unfold growPV
        simp only
        rw [if_pos (by simpa using hfit)]
        rfl
      · exact H.repl j _
    | some l =>
      obtain ⟨tag, rfl⟩ := hx
      have hfit : (l.length + y.l.length) * ei.bytes ≤ 2 ^ 47 := hfit
      cases tag with
      | none => cases happ
      | full =>
        cases happ with
        | full _ hs =>
        refine ⟨.lst (l.map f ++ y.l.map f) (.tip S.length), S ++ [.tip ((l.map f).length + (y.l.map f).length) ei.size], ?_, ⟨.tip S.length, by simp [Sl.l]⟩, ?_⟩
        · unfold growPV
          simp only [hs]
          rw [if_pos ⟨by simpa using hfit, trivial⟩]
          rfl
        · have := H.repl j (sz := ei.size) (l.map f ++ y.l.map f)
          simpa using this
      | tip id =>
        cases happ with
        | tip _ _ hs =>
        refine ⟨.lst (l.map f ++ y.l.map f) (.tip id), S.set id (.tip ((l.map f).length + (y.l.map f).length) ei.size), ?_, ⟨.tip id, by simp [Sl.l]⟩, ?_⟩
        · unfold growPV
          simp only [hs]
          rw [if_pos ⟨trivial, trivial, by simpa using hfit⟩]
          rfl
        · exact H.grow j hj _
end Go.Pam
namespace Go.Pam
theorem iteT {α : Type} {c : Bool} {a b : Option α} {r : α} (h : (if c = true then a else b) = some r) (hc : c = true) : a = some r := by subst hc; exact h
theorem iteF {α : Type} {c : Bool} {a b : Option α} {r : α} (h : (if c = true then a else b) = some r) (hc : c = false) : b = some r := by subst hc; exact h
end Go.Pam
