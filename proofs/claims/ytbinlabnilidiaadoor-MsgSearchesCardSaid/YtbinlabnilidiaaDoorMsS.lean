/- Messages: which are the same, what an operation has, what is a message. -/
import Derived.Test.YtbinlabnilidiaaDoorMsX
import Derived.Test.YtbinlabnilidiaaDoorMsFc
namespace Go.Proofs.YtbinlabnilidiaaDoor.M
open Go Go.Pam
set_option maxRecDepth 20000
set_option linter.unusedVariables false
set_option linter.unusedSimpArgs false

def all2 {α : Type} (p : α → α → Bool) : List α → List α → Bool
 | [], [] => true
 | x :: xs, y :: ys => p x y && all2 p xs ys
 | _, _ => false

theorem all2_len {α : Type} {p : α → α → Bool} : ∀ {l m : List α}, all2 p l m = true → l.length = m.length
 | [], [], _ => rfl
 | x :: xs, y :: ys, h => by
  have h' : (p x y && all2 p xs ys) = true := h
  rw [Bool.and_eq_true] at h'
  rw [List.length_cons, List.length_cons, all2_len h'.2]
 | [], _ :: _, h => by cases h
 | _ :: _, [], h => by cases h

theorem all2_from {α : Type} (p : α → α → Bool) (full : List α) : ∀ (i : Nat) (l m : List α), l.length = m.length → (∀ j, m[j]? = full[i + j]?) →
  allFrom (fun i x => match full[i]? with | some y => p x y | none => false) i l = all2 p l m
 | _, [], [], _, _ => rfl
 | i, x :: xs, y :: ys, hl, hf => by
  have h0 : full[i]? = some y := by have := hf 0; simpa using this.symm
  have ih := all2_from p full (i + 1) xs ys (by simpa using hl) (fun j => by have := hf (j + 1); rw [show i + 1 + j = i + (j + 1) by omega]; simpa using this)
  show ((match full[i]? with | some y => p x y | none => false) && allFrom _ (i + 1) xs) = (p x y && all2 p xs ys)
  rw [h0, ih]
 | _, [], _ :: _, h, _ => by simp at h
 | _, _ :: _, [], h, _ => by simp at h

theorem two_loop {α : Type} (l m : List α) (hlm : l.length = m.length) (p : α → α → Bool) (Lf : Nat → Int → Option (Out Bool Int))
  (h1 : ∀ (n i : Nat) (x y : α), l[i]? = some x → m[i]? = some y → Lf (n + 1) (i : Int) = if p x y = true then Lf n ((i + 1 : Nat) : Int) else some (.ret false))
  (h2 : ∀ n, Lf (n + 1) ((l.length : Nat) : Int) = some (.brk ((l.length : Nat) : Int))) {n : Nat} (hn : l.length < n) :
  Lf n 0 = some (if all2 p l m = true then .brk ((l.length : Nat) : Int) else .ret false) := by
 rw [← all2_from p m 0 l m hlm (fun j => by rw [Nat.zero_add])]
 refine all_loop0 l _ Lf ?_ h2 hn
 intro n i x hx
 have hi := lt_of hx
 have hy : m[i]? = some m[i] := List.getElem?_eq_getElem (by omega)
 rw [h1 n i x _ hx hy]
 simp only [hy]

/-! Modifications -/
def modEq (a b : Api_Mod) : Bool := a.Kind == b.Kind && a.Attr == b.Attr && (Sl.l a.Values == Sl.l b.Values)
def modFew (a : Api_Mod) : Prop := a.Attr.length ≤ 500 ∧ (Sl.l a.Values).length ≤ 14 ∧ ∀ s ∈ Sl.l a.Values, s.length ≤ 500
def modsEq (x y : Sl Api_Mod) : Bool := all2 modEq (Sl.l x) (Sl.l y)

theorem len_ne {α β : Type} (x : Sl α) (y : Sl β) : (Sl.len x != Sl.len y) = !decide ((Sl.l x).length = (Sl.l y).length) := by
 rw [Bool.eq_iff_iff, bne_iff_ne, Bool.not_eq_true', decide_eq_false_iff_not]; simp only [Sl.len]; omega

theorem all2_ne {α : Type} {p : α → α → Bool} {l m : List α} (h : ¬ l.length = m.length) : all2 p l m = false := by
 cases e : all2 p l m
 ·rfl
 ·exact absurd (all2_len e) h

theorem f30 {k : Nat} (hk : 200100 ≤ k) {a : Api_Mod} (b : Api_Mod) (ha : modFew a) : F30 k a b = some (modEq a b) := by
 unfold F30 modEq
 rw [f28 k _ _ (by have := ha.2.1; omega) hk]
 cases (a.Kind == b.Kind) <;> cases (a.Attr == b.Attr) <;> rfl

theorem fo40 {k : Nat} (hk : 200100 ≤ k) (x y : Sl Api_Mod) (hl : (Sl.l x).length ≤ 200000) (hx : ∀ a ∈ Sl.l x, modFew a) : F29_30 k x y = some (modsEq x y) := by
 unfold F29_30 modsEq
 rw [len_ne]
 by_cases h : (Sl.l x).length = (Sl.l y).length
 ·rw [decide_eq_true h]
  have hL := two_loop (Sl.l x) (Sl.l y) h modEq (F29_30_L0 k y x (Sl.len x)) (by
   intro n i a b h1 h2
   have hi := lt_of h1
   rw [F29_30_L0, if_pos (decide_eq_true (by simp only [Sl.len]; omega)), bnd (at_of h1), bnd (at_of h2), bnd (f30 hk b (hx a (mem_of_get h1))), ad_nat (by omega)]
   cases modEq a b <;> rfl) (by
   intro n; rw [F29_30_L0, if_neg (by simp [Sl.len])]) (n := k) (by omega)
  rw [if_neg (by simp), bnd hL]
  exact out_all
 ·rw [decide_eq_false h, if_pos (show (!false) = true from rfl), all2_ne h]

/-! Messages -/
abbrev Ms := Api_Msg
def sc1 (a b : Ms) : Bool := a.ID == b.ID && a.Op == b.Op && a.Of == b.Of && a.Version == b.Version && a.Scope == b.Scope && a.Size == b.Size && a.Code == b.Code
def sc2 (a b : Ms) : Bool := (a.DelOld == b.DelOld) && (a.HasSup == b.HasSup) && (a.DN == b.DN) && (a.Pass == b.Pass) && (a.RDN == b.RDN) && (a.Sup == b.Sup) && (a.Attr == b.Attr) && (a.Value == b.Value) && (a.Matched == b.Matched)
def msgEq (a b : Ms) : Bool := sameS 22 a.Filter b.Filter && (Sl.l a.Wants == Sl.l b.Wants) && modsEq a.Mods b.Mods && sc1 a b && sc2 a b

structure Few (a : Ms) : Prop where
 dn : a.DN.length ≤ 500
 pass : a.Pass.length ≤ 500
 rdn : a.RDN.length ≤ 500
 sup : a.Sup.length ≤ 500
 attr : a.Attr.length ≤ 500
 value : a.Value.length ≤ 500
 matched : a.Matched.length ≤ 500
 wants : (Sl.l a.Wants).length ≤ 14
 want : ∀ s ∈ Sl.l a.Wants, s.length ≤ 500
 mods : (Sl.l a.Mods).length ≤ 14
 mod : ∀ m ∈ Sl.l a.Mods, modFew m
 filter : fewP 22 a.Filter

theorem f10 {k : Nat} (hk : 200200 ≤ k) (hk2 : k < 400000000000000) {a b : Ms} (ha : Few a) (hb : fewP 22 b.Filter) : F10 k a b = some (msgEq a b) := by
 unfold F10
 rw [bnd (f27 22 k _ _ ha.filter hb (by omega) hk2), f28 k _ _ (by have := ha.wants; omega) (by omega), fo40 (by omega) _ _ (by have := ha.mods; omega) ha.mod]
 unfold msgEq sc1 sc2
 cases sameS 22 a.Filter b.Filter
 ·simp
 ·simp only [if_true, Option.bind_some]
  cases (Sl.l a.Wants == Sl.l b.Wants)
  ·simp
  ·simp only [if_true, Option.bind_some]
   simp only [Bool.true_and, Bool.and_assoc]

def noF : Fil := ⟨0, [], [], none, none⟩
def coreS (a : Ms) : Ms :=
 if a.Op = 1 then ⟨a.ID, a.Op, 0, a.DN, a.Version, a.Pass, 0, 0, noF, none, none, [], false, false, [], [], [], 0, []⟩
 else if a.Op = 3 then ⟨a.ID, a.Op, 0, a.DN, 0, [], a.Scope, a.Size, a.Filter, a.Wants, none, [], false, false, [], [], [], 0, []⟩
 else if a.Op = 4 ∨ a.Op = 5 ∨ a.Op = 10 then ⟨a.ID, a.Op, 0, a.DN, 0, [], 0, 0, noF, none, a.Mods, [], false, false, [], [], [], 0, []⟩
 else if a.Op = 6 then ⟨a.ID, a.Op, 0, a.DN, 0, [], 0, 0, noF, none, none, [], false, false, [], [], [], 0, []⟩
 else if a.Op = 7 then ⟨a.ID, a.Op, 0, a.DN, 0, [], 0, 0, noF, none, none, a.RDN, a.DelOld, a.HasSup, if a.HasSup = true then a.Sup else [], [], [], 0, []⟩
 else if a.Op = 8 then ⟨a.ID, a.Op, 0, a.DN, 0, [], 0, 0, noF, none, none, [], false, false, [], a.Attr, a.Value, 0, []⟩
 else if a.Op = 9 then ⟨a.ID, a.Op, a.Of, [], 0, [], 0, 0, noF, none, none, [], false, false, [], [], [], a.Code, a.Matched⟩
 else ⟨a.ID, a.Op, 0, [], 0, [], 0, 0, noF, none, none, [], false, false, [], [], [], 0, []⟩

theorem f23 {k : Nat} (a : Ms) : F23 k a = some (coreS a) := by
 unfold F23 coreS
 by_cases h1 : a.Op = 1
 ·simp [h1, noF]
 by_cases h3 : a.Op = 3
 ·simp [h3, noF]
 by_cases h4 : a.Op = 4
 ·simp [h4, noF]
 by_cases h5 : a.Op = 5
 ·simp [h5, noF]
 by_cases h10 : a.Op = 10
 ·simp [h10, noF]
 by_cases h6 : a.Op = 6
 ·simp [h6, noF]
 by_cases h7 : a.Op = 7
 ·cases hs : a.HasSup <;> simp [h7, noF, hs]
 by_cases h8 : a.Op = 8
 ·simp [h8, noF]
 by_cases h9 : a.Op = 9
 ·simp [h9, noF]
 simp [h1, h3, h4, h5, h6, h7, h8, h9, h10, noF]

theorem few_noF (n : Nat) : fewP (n + 1) noF := by
 rw [fewP]
 exact ⟨Nat.zero_le _, Nat.zero_le _, Nat.zero_le _, Nat.zero_le _, (fun s hs => nomatch hs), (fun s hs => nomatch hs)⟩

theorem core_filter {a : Ms} (h : fewP 22 a.Filter) : fewP 22 (coreS a).Filter := by
 unfold coreS
 repeat' split
 all_goals first | exact h | exact few_noF 21

/-! Texts -/
def textsS (l : List Str) : Bool := l.all fun s => decide (s.length ≤ 400)

theorem ix_loop {α : Type} (l : List α) (p : α → Bool) (Lf : Nat → Int → Option (Out Int Int))
  (h1 : ∀ (n i : Nat) (y : α), l[i]? = some y → Lf (n + 1) (i : Int) = if p y = true then Lf n ((i + 1 : Nat) : Int) else some (.ret (i : Int)))
  (h2 : ∀ n, Lf (n + 1) ((l.length : Nat) : Int) = some (.brk ((l.length : Nat) : Int))) :
  ∀ (j n i : Nat), i + j = l.length → j < n → ∃ r, Lf n (i : Int) = some r ∧ (((l.drop i).all p = true ∧ r = .brk ((l.length : Nat) : Int)) ∨ ((l.drop i).all p = false ∧ ∃ q : Nat, r = .ret (q : Int)))
 | j, 0, i, _, h => by omega
 | 0, n + 1, i, hij, _ => by
  have : i = l.length := by omega
  subst this
  exact ⟨_, h2 n, .inl ⟨by simp, rfl⟩⟩
 | j + 1, n + 1, i, hij, hn => by
  have hi : i < l.length := by omega
  have hd : (l.drop i).all p = (p l[i] && (l.drop (i + 1)).all p) := by rw [List.drop_eq_getElem_cons hi, List.all_cons]
  rw [h1 n i l[i] (List.getElem?_eq_getElem hi), hd]
  by_cases hp : p l[i] = true
  ·rw [if_pos hp, hp, Bool.true_and]
   exact ix_loop l p Lf h1 h2 j n (i + 1) (by omega) (by omega)
  ·rw [if_neg hp]
   exact ⟨_, rfl, .inr ⟨by simp [hp], i, rfl⟩⟩

theorem fo85 {k : Nat} (x : Sl Str) (hx : (Sl.l x).length < k) (hk2 : k < 400000000000000) : ∃ r, F65_46 k x = some r ∧ decide (r ≥ 0) = !textsS (Sl.l x) := by
 obtain ⟨r, hr, h⟩ := ix_loop (Sl.l x) (fun s => decide (s.length ≤ 400)) (F65_46_L0 k x (Sl.len x)) (by
  intro n i y hy
  have hi := lt_of hy
  have hF : F46 k y = some (!decide (y.length ≤ 400)) := by
   unfold F46
   rw [Option.some.injEq, Bool.eq_iff_iff, decide_eq_true_eq, Bool.not_eq_true', decide_eq_false_iff_not]; simp only [Str.len]; omega
  rw [F65_46_L0, if_pos (decide_eq_true (by simp only [Sl.len]; omega)), bnd (at_of hy), bnd hF, ad_nat (by omega)]
  cases decide (y.length ≤ 400) <;> rfl) (by
  intro n; rw [F65_46_L0, if_neg (by simp [Sl.len])]) (Sl.l x).length k 0 (by omega) hx
 rw [List.drop_zero] at h
 have hr : F65_46_L0 k x (Sl.len x) k 0 = some r := hr
 unfold F65_46 textsS
 rcases h with ⟨h1, h2⟩ | ⟨h1, q, h2⟩
 ·subst h2
  refine ⟨-1, by rw [bnd hr], ?_⟩
  rw [h1]; rfl
 ·subst h2
  refine ⟨(q : Int), by rw [bnd hr], ?_⟩
  rw [h1]
  exact decide_eq_true (by omega)

theorem f24t {k : Nat} (x : Sl Str) (hx : (Sl.l x).length < k) (hk2 : k < 400000000000000) : F24 k x = some (textsS (Sl.l x)) := by
 obtain ⟨r, hr, h⟩ := fo85 x hx hk2
 have : F45_46 k x = some (!textsS (Sl.l x)) := by unfold F45_46; rw [bnd hr, h]
 unfold F24
 rw [bnd this, Bool.not_not]

/-! What is a message -/
def modIs (top : Int) (m : Api_Mod) : Bool := decide (1 ≤ m.Kind) && decide (m.Kind ≤ top) && decide (m.Attr.length ≤ 400) && decide ((Sl.l m.Values).length ≤ 12) && textsS (Sl.l m.Values)
def modsIs (l : List Api_Mod) (top : Int) : Bool := l.all (modIs top) && decide (l.length ≤ 12)

theorem f26 {k : Nat} (hk : 200100 ≤ k) (hk2 : k < 400000000000000) (x : Sl Api_Mod) (top : Int) (hl : (Sl.l x).length ≤ 14) (hx : ∀ a ∈ Sl.l x, modFew a) : F26 k x top = some (modsIs (Sl.l x) top) := by
 have hL := all_loop0 (Sl.l x) (fun _ m => modIs top m) (F26_L0 k x top (Sl.len x)) (by
  intro n i y hy
  have hi := lt_of hy
  have hf := hx y (mem_of_get hy)
  have t1 : F24 k (some [y.Attr]) = some (decide (y.Attr.length ≤ 400)) := by
   rw [f24t _ (show 1 < k by omega) hk2]
   show some ([y.Attr].all fun s => decide (s.length ≤ 400)) = _
   simp
  have t2 : F24 k y.Values = some (textsS (Sl.l y.Values)) := f24t _ (by have := hf.2.1; omega) hk2
  have b1 : ((decide (y.Kind < 1)) || (decide (y.Kind > top))) = !(decide (1 ≤ y.Kind) && decide (y.Kind ≤ top)) := by
   rw [Bool.eq_iff_iff]
   simp only [Bool.or_eq_true, decide_eq_true_eq, Bool.not_eq_true', Bool.and_eq_false_iff, decide_eq_false_iff_not]
   omega
  have b2 : decide (Sl.len y.Values > 12) = !decide ((Sl.l y.Values).length ≤ 12) := by
   rw [Bool.eq_iff_iff, decide_eq_true_eq, Bool.not_eq_true', decide_eq_false_iff_not]; simp only [Sl.len]; omega
  rw [F26_L0, if_pos (decide_eq_true (by simp only [Sl.len]; omega)), bnd (at_of hy), b1, b2, t1, t2, ad_nat (by omega)]
  unfold modIs
  cases (decide (1 ≤ y.Kind) && decide (y.Kind ≤ top))
  ·rfl
  ·cases decide (y.Attr.length ≤ 400)
   ·rfl
   ·cases decide ((Sl.l y.Values).length ≤ 12)
    ·rfl
    ·cases textsS (Sl.l y.Values) <;> rfl) (by
  intro n; rw [F26_L0, if_neg (by simp [Sl.len])]) (n := k) (by omega)
 unfold F26 modsIs
 rw [bnd hL, allFrom_all]
 have e : decide (Sl.len x ≤ 12) = decide ((Sl.l x).length ≤ 12) := by rw [decide_eq_decide]; simp only [Sl.len]; omega
 cases (Sl.l x).all (modIs top)
 ·rfl
 ·simp only [if_true, e, Bool.true_and]

def filS (f : Fil) : Bool := decide (cS 22 f ≤ 20) && isS 22 f

theorem f25 {k : Nat} (hk : 200200 ≤ k) (hk2 : k < 400000000000000) {f : Fil} (hf : fewP 22 f) : F25 k f = some (filS f) := by
 unfold F25 filS
 rw [bnd (f47 22 k f hf (by omega)), f48 22 k f hf (by omega) hk2]
 cases decide (cS 22 f ≤ 20) <;> rfl

def opS (a : Ms) : Bool :=
 if a.Op = 1 then decide (1 ≤ a.Version) && decide (a.Version ≤ 127)
 else if a.Op = 3 then decide (0 ≤ a.Scope) && decide (a.Scope ≤ 2) && decide (0 ≤ a.Size) && decide (a.Size ≤ 2147483647) && filS a.Filter && decide ((Sl.l a.Wants).length ≤ 12) && textsS (Sl.l a.Wants)
 else if a.Op = 4 then modsIs (Sl.l a.Mods) 3
 else if a.Op = 5 ∨ a.Op = 10 then modsIs (Sl.l a.Mods) 1
 else if a.Op = 9 then decide (1 ≤ a.Of) && decide (a.Of ≤ 8) && decide (a.Of ≠ 2) && decide (0 ≤ a.Code) && decide (a.Code ≤ 127)
 else decide (1 ≤ a.Op) && decide (a.Op ≤ 10)
def ownS (a : Ms) : List Str := [a.DN, a.Pass, a.RDN, a.Sup, a.Attr, a.Value, a.Matched]
def isM (a : Ms) : Bool := decide (0 ≤ a.ID) && decide (a.ID ≤ 2147483647) && msgEq a (coreS a) && textsS (ownS a) && opS a

theorem tag9 {k : Nat} (o : Int) : ∃ t, F11 k 9 o = some t ∧ (t != 0) = (decide (1 ≤ o) && decide (o ≤ 8) && decide (o ≠ 2)) := by
 by_cases h : o < 0 ∨ o > 8
 ·refine ⟨0, ?_, ?_⟩
  ·unfold F11
   rw [if_pos (by decide), if_pos (by rw [Bool.or_eq_true, decide_eq_true_eq, decide_eq_true_eq]; exact h)]
  ·symm
   show _ = false
   rw [Bool.and_eq_false_iff, Bool.and_eq_false_iff, decide_eq_false_iff_not, decide_eq_false_iff_not]
   left; omega
 ·have : o = 0 ∨ o = 1 ∨ o = 2 ∨ o = 3 ∨ o = 4 ∨ o = 5 ∨ o = 6 ∨ o = 7 ∨ o = 8 := by omega
  rcases this with rfl | rfl | rfl | rfl | rfl | rfl | rfl | rfl | rfl <;> exact ⟨_, rfl, rfl⟩

theorem f9 {k : Nat} (hk : 200200 ≤ k) (hk2 : k < 400000000000000) {a : Ms} (ha : Few a) : F9 k a = some (isM a) := by
 have hS : F10 k a (coreS a) = some (msgEq a (coreS a)) := f10 hk hk2 ha (core_filter ha.filter)
 have hT : F24 k (some (ownS a)) = some (textsS (ownS a)) := f24t _ (show 7 < k by omega) hk2
 have hid : ((decide (a.ID < 0)) || (decide (a.ID > 2147483647))) = !(decide (0 ≤ a.ID) && decide (a.ID ≤ 2147483647)) := by
  rw [Bool.eq_iff_iff]
  simp only [Bool.or_eq_true, decide_eq_true_eq, Bool.not_eq_true', Bool.and_eq_false_iff, decide_eq_false_iff_not]
  omega
 have e0 : (some [a.DN, a.Pass, a.RDN, a.Sup, a.Attr, a.Value, a.Matched] : Sl Str) = some (ownS a) := rfl
 unfold F9 isM
 rw [hid, f23 a, e0, hT]
 cases (decide (0 ≤ a.ID) && decide (a.ID ≤ 2147483647))
 ·rfl
 ·rw [Bool.not_true, if_neg (by simp), bnd rfl, bnd rfl]
  rw [bnd hS]
  cases msgEq a (coreS a)
  ·rfl
  cases textsS (ownS a)
  ·rfl
  simp only [Bool.not_true, Bool.false_eq_true, if_false, Option.bind_some, Bool.true_and]
  unfold opS
  by_cases h1 : a.Op = 1
  ·simp only [h1, beq_self_eq_true, if_true]; try rfl
  by_cases h3 : a.Op = 3
  ·have e1 : (a.Op == 1) = false := by simpa using h1
   have eL : decide (Sl.len a.Wants ≤ 12) = decide ((Sl.l a.Wants).length ≤ 12) := by rw [decide_eq_decide]; simp only [Sl.len]; omega
   rw [f25 hk hk2 ha.filter, f24t a.Wants (by have := ha.wants; omega) hk2, eL]
   simp only [h3, e1, beq_self_eq_true, if_true, Bool.false_eq_true, if_false]
   try rw [if_neg (by decide)]
   try simp only [ge_iff_le]
   cases (((decide (0 ≤ a.Scope)) && (decide (a.Scope ≤ 2))) && (decide (0 ≤ a.Size))) && (decide (a.Size ≤ 2147483647))
   ·rfl
   ·cases filS a.Filter
    ·rfl
    ·cases decide ((Sl.l a.Wants).length ≤ 12) <;> rfl
  have e1 : (a.Op == 1) = false := by simpa using h1
  have e3 : (a.Op == 3) = false := by simpa using h3
  by_cases h4 : a.Op = 4
  ·rw [f26 (by omega) hk2 _ _ ha.mods ha.mod]
   simp [h4]
  have e4 : (a.Op == 4) = false := by simpa using h4
  by_cases h5 : a.Op = 5 ∨ a.Op = 10
  ·have hF := f26 (k := k) (by omega) hk2 a.Mods 1 ha.mods ha.mod
   rcases h5 with h5 | h5 <;> simp [h5, e1, e3, e4, hF]
  have e5 : (a.Op == 5) = false := by simp; omega
  have e10 : (a.Op == 10) = false := by simp; omega
  simp only [e1, e3, e4, e5, e10, Bool.false_eq_true, if_false, Option.bind_some, h1, h3, h4, h5]
  by_cases h9 : a.Op = 9
  ·obtain ⟨t, ht, ht2⟩ := tag9 (k := k) a.Of
   simp only [h9, beq_self_eq_true, if_true]
   rw [bnd ht, ht2]
   try rfl
  ·have e9 : (a.Op == 9) = false := by simpa using h9
   simp only [e9, Bool.false_eq_true, if_false, h9]
   try rfl

end Go.Proofs.YtbinlabnilidiaaDoor.M
