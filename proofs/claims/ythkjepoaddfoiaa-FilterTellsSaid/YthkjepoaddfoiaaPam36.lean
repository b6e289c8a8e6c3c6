/- strings.Builder: its methods as steps of the abstract machine. -/
import Derived.Test.YthkjepoaddfoiaaPam35
namespace Go.Pam
open Go.RowKit
set_option linter.unusedSimpArgs false
set_option linter.unusedVariables false

/-! What a method does to the memory -/
def bcells (bs : List UInt8) : List Value := bs.map fun b => .int .u8 b.toNat
def Wrote (T t : TypeId) (b : Nat) (v : Value) (bs : List UInt8) (w w' : World) : Prop :=
  ∃ v', w'.heap[b]? = some (.cells #[.pointer (some ⟨b, 0, none⟩), v'] T (0, 0)) ∧ w'.ownsRow 0 t 1 v' bs.length (bcells bs) ∧ (v'.ownBlock = v.ownBlock ∨ ∃ q, v'.ownBlock = some q ∧ w.heap.size ≤ q) ∧
    (bs = [] → v = .slice none 0 0 → v' = .slice none 0 0) ∧
    (∀ k, k < w.heap.size → k ≠ b → some k ≠ v.ownBlock → w'.heap[k]? = w.heap[k]?) ∧ w.heap.size ≤ w'.heap.size ∧ w'.os = w.os ∧ w'.tape = w.tape ∧ w'.output = w.output
def WrX (P : Program) (f : FuncId) (T t : TypeId) (args : List Value) (ys : List UInt8) (r : Value) : Prop :=
  ∀ (b : Nat) (p v : Value) (bs : List UInt8) (w : World), w.heap[b]? = some (.cells #[p, v] T (0, 0)) → (p = .pointer none ∨ p = .pointer (some ⟨b, 0, none⟩)) → w.ownsRow 0 t 1 v bs.length (bcells bs) → bs.length + ys.length ≤ 140737488355328 →
    Calls P f (.pointer (some ⟨b, 0, none⟩) :: args).toArray w fun e w' => e = .returned r ∧ Wrote T t b v (bs ++ ys) w w'
def StX (P : Program) (f : FuncId) (T t : TypeId) : Prop :=
  ∀ (b : Nat) (p v : Value) (bs : List UInt8) (w : World), w.heap[b]? = some (.cells #[p, v] T (0, 0)) → w.ownsRow 0 t 1 v bs.length (bcells bs) → (bs = [] → v = .slice none 0 0) →
    Calls P f #[.pointer (some ⟨b, 0, none⟩)] w fun e w' => e = .returned (.string ⟨bs.toArray⟩) ∧ (∀ k, some k ≠ v.ownBlock → w'.heap[k]? = w.heap[k]?) ∧ w'.heap.size = w.heap.size ∧ (∀ k o, w'.cell? ⟨k, o, none⟩ = w.cell? ⟨k, o, none⟩) ∧ w'.os = w.os ∧ w'.tape = w.tape ∧ w'.output = w.output

/-! The handlers -/
def wrCore (T t : TypeId) (i : Nat) (ys : List UInt8) (r : PV) (S : List SObj) : Option (PV × List SObj × Bool) :=
  match S[i]? with
  | some (.bld T' u b) =>
    if T' = T then match b with
      | none => if ys = [] then some (r, S.set i (.bld T true none), true) else if ys.length ≤ 140737488355328 then some (r, S.set i (.bld T true (some (S.length, ys.length))) ++ [.buf ys t], true) else none
      | some (j, n) => match S[j]? with
        | some (.buf bs t') => if t' = t ∧ n = bs.length ∧ bs.length + ys.length ≤ 140737488355328 then some (r, (S.set j .dead).set i (.bld T true (some (S.length, (bs ++ ys).length))) ++ [.buf (bs ++ ys) t], true) else none
        | _ => none
    else none
  | _ => none
def wbH (T t : TypeId) : List PV → List SObj → Option (PV × List SObj × Bool)
  | [.ptr i 0, .int .u8 c], S => if 0 ≤ c ∧ c < 256 then wrCore T t i [UInt8.ofNat c.toNat] .nili S else none
  | _, _ => none
def wsH (T t : TypeId) : List PV → List SObj → Option (PV × List SObj × Bool)
  | [.ptr i 0, .str s], S => wrCore T t i s (.tup [.int .i64 (Str.len s), .nili]) S
  | _, _ => none
def stH (T t : TypeId) : List PV → List SObj → Option (PV × List SObj × Bool)
  | [.ptr i 0], S => match S[i]? with
    | some (.bld T' u b) => if T' = T then match b with
      | none => some (.str [], S, false)
      | some (j, n) => match S[j]? with
        | some (.buf bs t') => if t' = t ∧ n = bs.length then some (.str bs, S.set j .dead, false) else none
        | _ => none
      else none
    | _ => none
  | _, _ => none

section
variable {P : Program} {S : List SObj} {w w' : World} {g : G} {base : Nat} {bd : Nat → Nat}

theorem R.bldRow (h : R S w g base bd) {t : TypeId} {b : Option (Nat × Nat)} {bs : List UInt8} (hb : (b = none ∧ bs = []) ∨ ∃ j, b = some (j, bs.length) ∧ S[j]? = some (.buf bs t)) :
    w.ownsRow 0 t 1 (bufVal g.loc g.hw b) bs.length (bcells bs) := by
  rcases hb with ⟨rfl, rfl⟩ | ⟨j, rfl, hj⟩
  · exact ⟨by simp [bcells], .inl ⟨rfl, rfl⟩⟩
  · obtain ⟨_, _, _, j4, cur, j5, j6, j7, j8, j9⟩ := h.live j _ hj
    exact ⟨by simp [bcells], .inr ⟨g.loc j, g.hw j, cur, rfl, Nat.zero_le _, j5, j8, j7, by omega, by rw [Nat.mul_one]; exact j9⟩⟩

theorem bufVal_own {g : G} {b : Option (Nat × Nat)} : (bufVal g.loc g.hw b).ownBlock = b.map fun p => g.loc p.1 := by
  cases b with
  | none => rfl
  | some p => rfl

theorem wrCore_good (h : R S w g base bd) {i : Nat} {T t : TypeId} {ys : List UInt8} {r : PV} {S' : List SObj} {e : Bool} {v : PV} (hw : wrCore T t i ys r S = some (v, S', e))
    {rv : Value} (hr : ∀ g' w' n, V g' w' n r rv) : ∃ u b bs, S[i]? = some (.bld T u b) ∧ ((b = none ∧ bs = []) ∨ ∃ j, b = some (j, bs.length) ∧ S[j]? = some (.buf bs t)) ∧ bs.length + ys.length ≤ 140737488355328 ∧
      ∀ w', Wrote T t (g.loc i) (bufVal g.loc g.hw b) (bs ++ ys) w w' → Good base bd S g w v S' e rv w' := by
  unfold wrCore at hw
  split at hw
  case h_2 => cases hw
  rename_i T' u b hs
  split at hw
  case isFalse => cases hw
  rename_i hT
  subst hT
  have main : ∀ (bs : List UInt8), ((b = none ∧ bs = []) ∨ ∃ j, b = some (j, bs.length) ∧ S[j]? = some (.buf bs t)) → bs ++ ys ≠ [] → ∀ w', Wrote T' t (g.loc i) (bufVal g.loc g.hw b) (bs ++ ys) w w' →
      Good base bd S g w r (((noBuf S b).set i (.bld T' true (some (S.length, (bs ++ ys).length)))) ++ [.buf (bs ++ ys) t]) true rv w' := by
    intro bs hb hne w' hW
    obtain ⟨v', b1, b2, b3, _, b5, b6, b7, b8, b9⟩ := hW
    obtain ⟨q, cap, cur', rfl, _, c2, c3, c4, c5, c6⟩ : ∃ q cap cur', v' = .slice (some ⟨q, 0, none⟩) (bs ++ ys).length cap ∧ 0 ≤ q ∧ w'.heap[q]? = some (.cells cur' t (0, 0)) ∧ (bs ++ ys).length ≤ cap ∧ cap ≤ maxLen ∧ cur'.size = cap * 1 ∧ cur'.toList.take ((bs ++ ys).length * 1) = bcells (bs ++ ys) := by
      rcases b2.2 with ⟨_, hz⟩ | ⟨q, cap, cur', hv, rest⟩
      · exact absurd (List.eq_nil_of_length_eq_zero hz) hne
      · exact ⟨q, cap, cur', hv, rest⟩
    obtain ⟨k1, k2⟩ := R.bldPut (T := T') (t := t) (u := u) (b := b) h.weaken hs (fun j n hj => by
      rcases hb with ⟨rfl, _⟩ | ⟨j', rfl, hj'⟩
      · cases hj
      · injection hj with hj; injection hj with hj1 hj2; subst hj1; exact ⟨_, _, hj'⟩) (q := q) (cap := cap) (bs' := bs ++ ys) (cur' := cur') hne
      (fun k hk h1 h2 => b5 k hk h1 (by
        rw [bufVal_own]
        intro he
        cases b with
        | none => cases he
        | some p => obtain ⟨j, n⟩ := p; simp only [Option.map_some, Option.some.injEq] at he; exact h2 j n rfl he)) b1 c2 (by omega) c4 c3 (by rw [Nat.mul_one] at c6; exact c6)
      (by
        rcases b3 with b3 | ⟨q', hq', hle⟩
        · rw [bufVal_own] at b3
          cases b with
          | none => cases b3
          | some p => obtain ⟨j, n⟩ := p; simp only [Value.ownBlock, Option.map_some, Option.some.injEq] at b3; exact .inl ⟨j, n, rfl, b3⟩
        · simp only [Value.ownBlock, Option.some.injEq] at hq'; subst hq'; exact .inr hle) b6 b7 b8 b9
    exact ⟨_, hr _ _ _, k1, k2, by simp [noBuf_len]⟩
  cases b with
  | none =>
    simp only at hw
    split at hw
    · rename_i hy
      subst hy
      injection hw with hw; injection hw with h1 h2; injection h2 with h2 h3; subst h1 h2 h3
      refine ⟨u, none, [], hs, .inl ⟨rfl, rfl⟩, by simp, fun w' hW => ?_⟩
      obtain ⟨v', b1, b2, b3, b4, b5, b6, b7, b8, b9⟩ := hW
      have hv' := b4 rfl rfl
      subst hv'
      obtain ⟨i1, i2, i3, i4, i5⟩ := h.live i _ hs
      obtain ⟨k1, k2⟩ := R.touch (o' := .bld T' true none) h.weaken hs (by simp) i1 i2 i3 (fun k hk hne => b5 k hk hne (by simp [bufVal, Value.ownBlock])) b6 b7 b8 b9 (fun _ => ⟨i1, i2, i3, (fun j n hj => by cases hj), by simpa [bufVal] using b1⟩) S.length (Nat.le_refl _)
      exact ⟨g, hr _ _ _, k1, k2, by simp⟩
    · rename_i hy
      split at hw
      case isFalse => cases hw
      rename_i hle
      injection hw with hw; injection hw with h1 h2; injection h2 with h2 h3; subst h1 h2 h3
      exact ⟨u, none, [], hs, .inl ⟨rfl, rfl⟩, by simpa using hle, main [] (.inl ⟨rfl, rfl⟩) (by simpa using hy)⟩
  | some p =>
    obtain ⟨j, n⟩ := p
    simp only at hw
    split at hw
    case h_2 => cases hw
    rename_i bs t' hj
    split at hw
    case isFalse => cases hw
    rename_i hc
    obtain ⟨c1, c2, c3⟩ := hc
    subst c1 c2
    injection hw with hw; injection hw with h1 h2; injection h2 with h2 h3; subst h1 h2 h3
    have hne : bs ≠ [] := (h.live j _ hj).2.2.2.1
    exact ⟨u, some (j, bs.length), bs, hs, .inr ⟨j, rfl, hj⟩, c3, main bs (.inr ⟨j, rfl, hj⟩) (by simp [hne])⟩

theorem arg1 {args : List PV} {cargs : Array Value} {x : PV} (ha : args = [x]) (hl : args.length = cargs.size) (hV : ∀ (i : Nat) (c : PV), args[i]? = some c → V g w S.length c (cargs.getD i undef)) : ∃ a, cargs = #[a] ∧ V g w S.length x a := by
  subst ha
  match cargs, hl with
  | ⟨[a]⟩, _ => exact ⟨a, rfl, hV 0 x rfl⟩
theorem arg2 {args : List PV} {cargs : Array Value} {x y : PV} (ha : args = [x, y]) (hl : args.length = cargs.size) (hV : ∀ (i : Nat) (c : PV), args[i]? = some c → V g w S.length c (cargs.getD i undef)) : ∃ a b, cargs = #[a, b] ∧ V g w S.length x a ∧ V g w S.length y b := by
  subst ha
  match cargs, hl with
  | ⟨[a, b]⟩, _ => exact ⟨a, b, rfl, hV 0 x rfl, hV 1 y rfl⟩
theorem inv_ptr {i off : Nat} {v : Value} (h : V g w S.length (.ptr i off) v) : v = .pointer (some ⟨g.loc i, off, none⟩) := by
  cases h; rfl

theorem wb_ok {f : FuncId} {T t : TypeId} (hfn : ∃ fn, P.funcs[f]? = some fn ∧ fn.body.isNone = false ∧ fn.name ≠ "runtime.NumGoroutine") (hX : ∀ c : Int, 0 ≤ c → c < 256 → WrX P f T t [.int .u8 c] [UInt8.ofNat c.toNat] .nilIface)
    (args : List PV) (S : List SObj) (v : PV) (S' : List SObj) (e : Bool) (h : wbH T t args S = some (v, S', e))
    (w : World) (g : G) (base : Nat) (bd : Nat → Nat) (cargs : Array Value) (hR : Go.Pam.R S w g base bd) (hl : args.length = cargs.size) (hV : ∀ (i : Nat) (c : PV), args[i]? = some c → V g w S.length c (cargs.getD i undef)) :
    (∃ fn, P.funcs[f]? = some fn ∧ fn.body.isNone = false ∧ fn.name ≠ "runtime.NumGoroutine") ∧ Calls P f cargs w (fun en w' => ∃ rv, en = .returned rv ∧ Good base bd S g w v S' e rv w') := by
  refine ⟨hfn, ?_⟩
  unfold wbH at h
  split at h
  case h_2 => cases h
  rename_i i c
  split at h
  case isFalse => cases h
  rename_i hc
  obtain ⟨a, b, rfl, va, vb⟩ := arg2 rfl hl hV
  have e1 := inv_ptr va
  have e2 := vb.inv_int
  subst e1 e2
  obtain ⟨u, bo, bs, s1, s2, s3, s4⟩ := wrCore_good hR h (rv := .nilIface) (fun _ _ _ => .nili)
  obtain ⟨_, _, _, _, i5⟩ := hR.live i _ s1
  refine (hX c hc.1 hc.2 (g.loc i) _ _ bs w i5 (by cases u <;> simp) (hR.bldRow s2) s3).mono ?_
  rintro en w' ⟨rfl, hW⟩
  exact ⟨_, rfl, s4 w' hW⟩

theorem ws_ok {f : FuncId} {T t : TypeId} (hfn : ∃ fn, P.funcs[f]? = some fn ∧ fn.body.isNone = false ∧ fn.name ≠ "runtime.NumGoroutine") (hX : ∀ s : ByteArray, WrX P f T t [.string s] s.data.toList (.tuple #[.int .i64 s.size, .nilIface]))
    (args : List PV) (S : List SObj) (v : PV) (S' : List SObj) (e : Bool) (h : wsH T t args S = some (v, S', e))
    (w : World) (g : G) (base : Nat) (bd : Nat → Nat) (cargs : Array Value) (hR : Go.Pam.R S w g base bd) (hl : args.length = cargs.size) (hV : ∀ (i : Nat) (c : PV), args[i]? = some c → V g w S.length c (cargs.getD i undef)) :
    (∃ fn, P.funcs[f]? = some fn ∧ fn.body.isNone = false ∧ fn.name ≠ "runtime.NumGoroutine") ∧ Calls P f cargs w (fun en w' => ∃ rv, en = .returned rv ∧ Good base bd S g w v S' e rv w') := by
  refine ⟨hfn, ?_⟩
  unfold wsH at h
  split at h
  case h_2 => cases h
  rename_i i s
  obtain ⟨a, b, rfl, va, vb⟩ := arg2 rfl hl hV
  have e1 := inv_ptr va
  subst e1
  obtain ⟨s', rfl, rfl⟩ : ∃ s' : ByteArray, b = .string s' ∧ s'.data.toList = s := by
    cases vb with
    | str s => exact ⟨s, rfl, rfl⟩
  have hlen : Str.len s'.data.toList = (s'.size : Int) := by
    show ((s'.data.toList.length : Nat) : Int) = ((s'.data.size : Nat) : Int)
    rw [Array.length_toList]
  obtain ⟨u, bo, bs, s1, s2, s3, s4⟩ := wrCore_good hR h (rv := .tuple #[.int .i64 s'.size, .nilIface]) (fun g' w' n => by
    rw [hlen]
    refine .tup _ _ rfl fun k c hk => ?_
    match k, hk with
    | 0, hk => simp at hk; subst hk; exact .int _ _
    | 1, hk => simp at hk; subst hk; exact .nili)
  obtain ⟨_, _, _, _, i5⟩ := hR.live i _ s1
  refine (hX s' (g.loc i) _ _ bs w i5 (by cases u <;> simp) (hR.bldRow s2) s3).mono ?_
  rintro en w' ⟨rfl, hW⟩
  exact ⟨_, rfl, s4 w' hW⟩

theorem st_ok {f : FuncId} {T t : TypeId} (hfn : ∃ fn, P.funcs[f]? = some fn ∧ fn.body.isNone = false ∧ fn.name ≠ "runtime.NumGoroutine") (hX : StX P f T t)
    (args : List PV) (S : List SObj) (v : PV) (S' : List SObj) (e : Bool) (h : stH T t args S = some (v, S', e))
    (w : World) (g : G) (base : Nat) (bd : Nat → Nat) (cargs : Array Value) (hR : Go.Pam.R S w g base bd) (hl : args.length = cargs.size) (hV : ∀ (i : Nat) (c : PV), args[i]? = some c → V g w S.length c (cargs.getD i undef)) :
    (∃ fn, P.funcs[f]? = some fn ∧ fn.body.isNone = false ∧ fn.name ≠ "runtime.NumGoroutine") ∧ Calls P f cargs w (fun en w' => ∃ rv, en = .returned rv ∧ Good base bd S g w v S' e rv w') := by
  refine ⟨hfn, ?_⟩
  unfold stH at h
  split at h
  case h_2 => cases h
  rename_i i
  obtain ⟨a, rfl, va⟩ := arg1 rfl hl hV
  have e1 := inv_ptr va
  subst e1
  split at h
  case h_2 => cases h
  rename_i T' u b hs
  split at h
  case isFalse => cases h
  rename_i hT
  subst hT
  obtain ⟨_, _, _, _, i5⟩ := hR.live i _ hs
  have strV : ∀ (bs : List UInt8) g' w' n, V g' w' n (.str bs) (.string ⟨bs.toArray⟩) := fun bs g' w' n => V.str ⟨bs.toArray⟩
  cases b with
  | none =>
    simp only [Option.some.injEq, Prod.mk.injEq] at h
    obtain ⟨rfl, rfl, rfl⟩ := h
    refine (hX (g.loc i) _ _ [] w i5 (hR.bldRow (.inl ⟨rfl, rfl⟩)) (fun _ => rfl)).mono ?_
    rintro en w' ⟨rfl, hk, hsz, hcell, ho, ht, hp⟩
    have hheap : w'.heap = w.heap := by
      apply Array.ext_getElem?
      intro k
      exact hk k (by simp [bufVal, Value.ownBlock])
    exact ⟨_, rfl, g, strV _ _ _ _, by simpa using hR.drawn hheap ho ht hp, Evo.drawn hheap ho ht hp, Nat.le_refl _⟩
  | some p =>
    obtain ⟨j, n⟩ := p
    simp only at h
    split at h
    case h_2 => cases h
    rename_i bs t' hj
    split at h
    case isFalse => cases h
    rename_i hc
    obtain ⟨c1, c2⟩ := hc
    subst c1 c2
    simp only [Option.some.injEq, Prod.mk.injEq] at h
    obtain ⟨rfl, rfl, rfl⟩ := h
    have lj := hR.live j _ hj
    obtain ⟨j1, j2, j3, j4, _⟩ := lj
    refine (hX (g.loc i) _ _ bs w i5 (hR.bldRow (.inr ⟨j, rfl, hj⟩)) (fun h => absurd h j4)).mono ?_
    rintro en w' ⟨rfl, hk, hsz, hcell, ho, ht, hp⟩
    obtain ⟨k1, k2⟩ := R.touch (o' := .dead) (w' := w') hR hj (by simp) j1 j2 j3 (fun k hk2 hne => hk k (by rw [bufVal_own]; simpa using hne)) (by omega) ho ht hp (fun _ => j1) S.length (Nat.le_refl _)
    exact ⟨_, rfl, g, strV _ _ _ _, by simpa using k1, k2, by simp⟩
end
end Go.Pam
