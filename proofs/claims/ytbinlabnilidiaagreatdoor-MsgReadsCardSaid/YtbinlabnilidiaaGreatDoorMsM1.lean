/- The plain laws, part 1. -/
import Derived.Test.YtbinlabnilidiaaGreatDoorMDz
import Derived.Tactics
set_option linter.unusedVariables false
set_option linter.unusedSimpArgs false
set_option maxRecDepth 20000
namespace Go.Proofs.YtbinlabnilidiaaGreatDoor.M
open Go Go.Pam
abbrev Fil := Xae
/-! Loops that look at each element -/
def XaP {α : Type} (p : Nat → α → Bool) : Nat → List α → Bool
 | _, [] => true
 | i, x :: xs => p i x && XaP p (i + 1) xs
theorem Xbw {α : Type} {p : α → Bool} : ∀ (i : Nat) (l : List α), XaP (fun _ x => p x) i l = l.all p
 | _, [] => rfl
 | i, x :: xs => by simp only [XaP, List.all_cons]; rw [Xbw (i + 1) xs]
theorem Xjx {α : Type} (l : List α) (p : Nat → α → Bool) (Lf : Nat → Int → Option (Out Bool Int))
  (h1 : ∀ (n i : Nat) (y : α), l[i]? = some y → Lf (n + 1) (i : Int) = if p i y = true then Lf n ((i + 1 : Nat) : Int) else some (.ret false))
  (h2 : ∀ n, Lf (n + 1) ((l.length : Nat) : Int) = some (.brk ((l.length : Nat) : Int))) :
  ∀ (j n i : Nat), i + j = l.length → j < n → Lf n (i : Int) = some (if XaP p i (l.drop i) = true then .brk ((l.length : Nat) : Int) else .ret false)
 | j, 0, i, _, h => by omega
 | 0, n + 1, i, hij, _ => by
  have : i = l.length := by omega
  subst this
  rw [h2]; simp [XaP]
 | j + 1, n + 1, i, hij, hn => by
  have hi : i < l.length := by omega
  have hd : XaP p i (l.drop i) = (p i l[i] && XaP p (i + 1) (l.drop (i + 1))) := by rw [List.drop_eq_getElem_cons hi]; rfl
  rw [h1 n i l[i] (List.getElem?_eq_getElem hi), hd]
  by_cases hp : p i l[i] = true
  ·rw [if_pos hp, Xjx l p Lf h1 h2 j n (i + 1) (by omega) (by omega)]
   simp [hp]
  ·rw [if_neg hp]
   simp [hp]
theorem Xbe {α : Type} (l : List α) (p : Nat → α → Bool) (Lf : Nat → Int → Option (Out Bool Int))
  (h1 : ∀ (n i : Nat) (y : α), l[i]? = some y → Lf (n + 1) (i : Int) = if p i y = true then Lf n ((i + 1 : Nat) : Int) else some (.ret false))
  (h2 : ∀ n, Lf (n + 1) ((l.length : Nat) : Int) = some (.brk ((l.length : Nat) : Int))) {n : Nat} (hn : l.length < n) :
  Lf n 0 = some (if XaP p 0 l = true then .brk ((l.length : Nat) : Int) else .ret false) := by
 have := Xjx l p Lf h1 h2 l.length n 0 (by omega) hn
 simpa using this
theorem XdG {b : Bool} {n : Int} : (match (if b = true then Out.brk n else Out.ret false : Out Bool Int) with | .ret r => some r | .brk _ => some true) = some b := by
 cases b <;> rfl
theorem Xbj {α : Type} {x : Sl α} {i : Nat} {y : α} (h : x.l[i]? = some y) : Sl.at? x (i : Int) = some y := by rw [Sl.at?_nat]; exact h
theorem XbP {α : Type} {l : List α} {i : Nat} {y : α} (h : l[i]? = some y) : i < l.length := (List.getElem?_eq_some_iff.1 h).1
/-! Names of types -/
def XdH (c : Int) : Bool := (decide (c ≥ 97) && decide (c ≤ 122)) || (decide (c ≥ 48) && decide (c ≤ 57)) || (c == 45)
def Xip (s : Str) : Bool := match s with
 | [] => false
 | c :: r => decide (r.length ≤ 15) && decide ((c.toNat : Int) ≥ 97) && decide ((c.toNat : Int) ≤ 122) && (c :: r).all fun c => XdH c.toNat
theorem f89 {k : Nat} (hk : 20 ≤ k) (s : Str) : F89 k s = some (Xip s) := by
 cases s with
 | nil => unfold F89; rfl
 | cons c r =>
  by_cases hlen : r.length ≤ 15
  ·have hl : Xff k (Str.bytes (c :: r)) (Sl.len (Str.bytes (c :: r))) k 0 = some (if XaP (fun _ (c : Int) => XdH c) 0 (Sl.l (Str.bytes (c :: r))) = true then .brk (((Sl.l (Str.bytes (c :: r))).length : Nat) : Int) else .ret false) := by
    refine Xbe (Sl.l (Str.bytes (c :: r))) (fun _ c => XdH c) (Xff k (Str.bytes (c :: r)) (Sl.len (Str.bytes (c :: r)))) ?_ ?_ (by rw [Str.bytes_l]; simp; omega)
    ·intro n i y hy
     have hi := XbP hy
     rw [Xff, if_pos (decide_eq_true (by simp only [Sl.len]; omega)), bnd (Xbj hy), XaK (by rw [Str.bytes_l] at hi; simp at hi; omega)]
     unfold XdH
     by_cases h1 : ((decide (y ≥ 97)) && (decide (y ≤ 122))) = true
     ·simp [h1]
     ·by_cases h2 : ((decide (y ≥ 48)) && (decide (y ≤ 57))) = true
      ·simp [h1, h2]
      ·simp only [Bool.not_eq_true] at h1 h2
       by_cases h3 : y = 45
       ·simp [h1, h2, h3]
       ·have h3' : (y == 45) = false := by simpa using h3
        simp [h1, h2, h3']
    ·intro n
     rw [Xff, if_neg (by simp [Sl.len])]
   unfold F89
   have ha : Str.at? (c :: r) 0 = some (c.toNat : Int) := rfl
   have hl16 : decide (Str.len (c :: r) > 16) = false := decide_eq_false (by simp only [Str.len, List.length_cons]; omega)
   simp only [ha, hl16, Option.bind_some, Bool.or_false, show ((c :: r : Str) == []) = false from rfl, Bool.false_eq_true, if_false]
   have hall : XaP (fun _ (c : Int) => XdH c) 0 (Sl.l (Str.bytes (c :: r))) = (c :: r).all fun c => XdH c.toNat := by
    rw [Xbw, Str.bytes_l, List.all_map]; rfl
   rw [hall] at hl
   unfold Xip
   simp only [hlen, decide_true, Bool.true_and]
   by_cases h1 : (c.toNat : Int) < 97
   ·have : decide ((c.toNat : Int) ≥ 97) = false := decide_eq_false (by omega)
    simp only [this, Bool.false_and]
    simp [h1]
   ·have g1 : decide ((c.toNat : Int) ≥ 97) = true := decide_eq_true (by omega)
    have g1' : decide ((c.toNat : Int) < 97) = false := decide_eq_false h1
    simp only [g1, g1', Bool.true_and, Bool.false_eq_true, if_false, Option.bind_some]
    by_cases h2 : (c.toNat : Int) > 122
    ·have : decide ((c.toNat : Int) ≤ 122) = false := decide_eq_false (by omega)
     simp only [this, Bool.false_and, decide_eq_true h2, if_true]
    ·have g2 : decide ((c.toNat : Int) ≤ 122) = true := decide_eq_true (by omega)
     have g2' : decide ((c.toNat : Int) > 122) = false := decide_eq_false h2
     simp only [g2, g2', Bool.true_and, Bool.false_eq_true, if_false]
     rw [bnd hl]
     exact XdG
  ·unfold F89 Xip
   have hl16 : decide (Str.len (c :: r) > 16) = true := decide_eq_true (by simp only [Str.len, List.length_cons]; omega)
   have : decide (r.length ≤ 15) = false := decide_eq_false hlen
   simp [hl16, this]
/-! Few -/
def XcZ : Nat → Fil → Prop
 | 0, _ => False
 | n + 1, f => (Sl.l f.Kids).length ≤ 200000 ∧ f.Attr.length ≤ 200000 ∧ f.Value.length ≤ 200000 ∧ (Sl.l f.Subs).length ≤ 200000 ∧ (∀ s ∈ (Sl.l f.Subs), s.length ≤ 200000) ∧ ∀ g ∈ (Sl.l f.Kids), XcZ n g
theorem XaQ {α : Type} {l : List α} {i : Nat} {y : α} (h : l[i]? = some y) : y ∈ l := List.mem_of_getElem? h
theorem Xdt {α : Type} {p : Nat → α → Bool} : ∀ {i : Nat} {l : List α}, XaP p i l = true → ∀ y ∈ l, ∃ j, p j y = true
 | i, x :: xs, h, y, hy => by
  have h' : (p i x && XaP p (i + 1) xs) = true := h
  rw [Bool.and_eq_true] at h'
  rcases List.mem_cons.1 hy with rfl | hy
  ·exact ⟨i, h'.1⟩
  ·exact Xdt h'.2 y hy
/-! Counts -/
def cl : List Int → Int → Int
 | [], x => x
 | c :: r, x => if x ≤ 20 then cl r (x + c) else x
def XcC (n : Int) : Bool := decide (n ≥ 1) && decide (n ≤ 3)
def cS : Nat → Fil → Int
 | 0, _ => 1
 | n + 1, f => if XcC f.Kind = true then Xkb (cl ((Sl.l f.Kids).map (cS n)) 1) 21 else 1
theorem XsW : ∀ (l : List Int) (x : Int), (∀ c ∈ l, 1 ≤ c) → x ≤ cl l x
 | [], x, _ => Int.le_refl _
 | c :: r, x, h => by
  simp only [cl]
  split
  ·have := XsW r (x + c) (fun c' hc => h c' (List.mem_cons_of_mem _ hc))
   have := h c List.mem_cons_self
   omega
  ·exact Int.le_refl _
theorem XdR : ∀ (n : Nat) (f : Fil), 1 ≤ cS n f ∧ cS n f ≤ 21
 | 0, f => by simp [cS]
 | n + 1, f => by
  simp only [cS]
  split
  ·have := XsW ((Sl.l f.Kids).map (cS n)) 1 (fun c hc => by
    obtain ⟨g, _, rfl⟩ := List.mem_map.1 hc; exact (XdR n g).1)
   unfold Xkb; split <;> omega
  ·omega
theorem f67L (rc : Fil → Option Int) (k : Nat) (f : Fil) (q : Fil → Int) (hq : ∀ g ∈ (Sl.l f.Kids), rc g = some (q g) ∧ 1 ≤ q g ∧ q g ≤ 21) (hk : XcC f.Kind = true) (hl : (Sl.l f.Kids).length ≤ 200000) :
  ∀ (j n i : Nat) (x : Int), i + j = (Sl.l f.Kids).length → j < n → 0 ≤ x → x ≤ 1000 → ∃ i', Xe6 rc k f n x (i : Int) = some (cl (((Sl.l f.Kids).drop i).map q) x, i')
 | j, 0, i, x, _, h, _, _ => by omega
 | 0, n + 1, i, x, hij, _, _, _ => by
  have : i = (Sl.l f.Kids).length := by omega
  subst this
  have hc : F86 k f.Kind = some true := by unfold F86; rw [show ((decide (f.Kind ≥ 1)) && (decide (f.Kind ≤ 3))) = true from hk]
  rw [Xe6, bnd hc, if_neg (by simp [Sl.len])]
  simp [cl]
 | j + 1, n + 1, i, x, hij, hn, h0, h1 => by
  have hi : i < (Sl.l f.Kids).length := by omega
  have hc : F86 k f.Kind = some true := by unfold F86; rw [show ((decide (f.Kind ≥ 1)) && (decide (f.Kind ≤ 3))) = true from hk]
  have hd : ((Sl.l f.Kids).drop i).map q = q (Sl.l f.Kids)[i] :: ((Sl.l f.Kids).drop (i + 1)).map q := by rw [List.drop_eq_getElem_cons hi]; rfl
  obtain ⟨q1, q2, q3⟩ := hq (Sl.l f.Kids)[i] (List.getElem_mem hi)
  rw [Xe6, bnd hc, hd]
  have hlt : decide ((i : Int) < Sl.len f.Kids) = true := decide_eq_true (by simp only [Sl.len]; omega)
  simp only [hlt, Bool.true_and, cl]
  by_cases hx : x ≤ 20
  ·rw [if_pos (decide_eq_true hx), if_pos hx, bnd (Xbj (List.getElem?_eq_getElem hi)), bnd q1, XaK (by omega), XeC (by omega)]
   exact f67L rc k f q hq hk hl j n (i + 1) _ (by omega) (by omega) (by omega) (by omega)
  ·rw [if_neg (by simpa using hx), if_neg hx]
   exact ⟨_, rfl⟩
theorem f67 : ∀ (n k : Nat) (f : Fil), XcZ n f → n + 200100 ≤ k → F67 k f = some (cS n f)
 | 0, k, f, h, _ => h.elim
 | n + 1, 0, f, _, hk => by omega
 | n + 1, k + 1, f, h, hk => by
  obtain ⟨h1, h2, h3, h4, h5, h6⟩ := h
  rw [F67]
  by_cases hkk : XcC f.Kind = true
  ·obtain ⟨i', hL⟩ := f67L (F67 k) k f (cS n) (fun g hg => ⟨f67 n k g (h6 g hg) (by omega), XdR n g⟩) hkk h1 (Sl.l f.Kids).length k 0 1 (by omega) (by omega) (by omega) (by omega)
   rw [List.drop_zero] at hL
   have hL' : Xe6 (F67 k) k f k 1 0 = some (cl ((Sl.l f.Kids).map (cS n)) 1, i') := hL
   rw [bnd hL']
   simp only [cS, hkk, if_true]
  ·obtain ⟨k', rfl⟩ : ∃ k', k = k' + 1 := ⟨k - 1, by omega⟩
   have hc : F86 (k' + 1) f.Kind = some false := by
    unfold F86; rw [show ((decide (f.Kind ≥ 1)) && (decide (f.Kind ≤ 3))) = false by simpa [XcC] using hkk]
   rw [Xe6, bnd hc]
   simp only [Bool.false_and, Bool.false_eq_true, if_false, Option.bind_some, cS, hkk]
   rfl
/-! Xhc -/
def XcU (m : Nat) (i : Nat) (s : Str) : Bool := !(decide (s.length > 60) || (s == [] && decide (i > 0) && decide (i + 1 < m)))
def XdI (l : List Str) : Bool := decide (2 ≤ l.length) && decide (l.length ≤ 20) && l.any (fun s => !(s == [])) && XaP (XcU l.length) 0 l
theorem XkI : ∀ (l : List Str), Lib.join l [] = l.flatten
 | [] => rfl
 | x :: r => by
  rw [Lib.join_cons]
  simp [Lib.joinTail]
theorem Xjy : ∀ (l : List Str), (∀ s ∈ l, s.length ≤ 200000) → l.flatten.length ≤ l.length * 200000
 | [], _ => by simp
 | x :: r, h => by
  have := Xjy r (fun s hs => h s (List.mem_cons_of_mem _ hs))
  have := h x List.mem_cons_self
  simp only [List.flatten_cons, List.length_append, List.length_cons]
  omega
theorem Xjz : ∀ (l : List Str), (l.flatten == []) = !l.any (fun s => !(s == []))
 | [] => rfl
 | x :: r => by
  have := Xjz r
  cases x with
  | nil => simpa using this
  | cons c x => rfl
theorem Xiq (l : List Str) (i : Nat) (y : Str) (hl : l.length ≤ 200000) : ((decide ((Str.len y) > 60)) || (((y == []) && (decide ((i : Int) > 0))) && (decide ((i : Int) < (sb .i64 ((l.length : Nat) : Int) 1))))) = !XcU l.length i y := by
 rw [Xk8 (by omega)]
 unfold XcU
 rw [Bool.not_not]
 have e1 : decide (Str.len y > 60) = decide (y.length > 60) := by rw [decide_eq_decide]; simp only [Str.len]; omega
 have e2 : decide ((i : Int) > 0) = decide (i > 0) := by rw [decide_eq_decide]; omega
 have e3 : decide ((i : Int) < ((l.length : Nat) : Int) - 1) = decide (i + 1 < l.length) := by rw [decide_eq_decide]; omega
 rw [e1, e2, e3]
theorem f90 {k : Nat} (hk : 200100 ≤ k) (x : Sl Str) (h1 : x.l.length ≤ 200000) (h2 : ∀ s ∈ x.l, s.length ≤ 200000) : F90 k x = some (XdI x.l) := by
 have hloop := Xbe x.l (XcU x.l.length) (Xgb k x (Sl.len x)) (by
  intro n i y hy
  have hi := XbP hy
  rw [Xgb, if_pos (decide_eq_true (by simp only [Sl.len]; omega)), bnd (Xbj hy), XaK (by omega)]
  rw [show Sl.len x = ((x.l.length : Nat) : Int) from rfl, Xiq x.l i y h1]
  cases XcU x.l.length i y <;> rfl) (by
  intro n; rw [Xgb, if_neg (by simp [Sl.len])]) (n := k) (by omega)
 unfold F90 XdI
 by_cases hc : ((decide ((Sl.len x) < 2)) || (decide ((Sl.len x) > 20))) = true
 ·rw [if_pos hc]
  simp only [Option.bind_some, if_true]
  have : (decide (2 ≤ x.l.length) && decide (x.l.length ≤ 20)) = false := by
   simp only [Bool.or_eq_true, decide_eq_true_eq] at hc; simp only [Sl.len] at hc
   rw [Bool.and_eq_false_iff, decide_eq_false_iff_not, decide_eq_false_iff_not]; omega
  rw [this]; rfl
 ·rw [if_neg hc]
  have hr : (decide (2 ≤ x.l.length) && decide (x.l.length ≤ 20)) = true := by
   simp only [Bool.or_eq_true, decide_eq_true_eq] at hc; simp only [Sl.len] at hc
   rw [Bool.and_eq_true, decide_eq_true_eq, decide_eq_true_eq]; omega
  have hj : Sl.join? x [] = some x.l.flatten := by
   unfold Sl.join?
   rw [XkI, if_pos ⟨by omega, by have := Xjy x.l h2; omega⟩]
  rw [bnd hj, hr, Xjz]
  simp only [Option.bind_some, Bool.true_and]
  cases x.l.any (fun s => !(s == []))
  ·rfl
  ·simp only [Bool.not_true, Bool.false_eq_true, if_false, Bool.true_and]
   rw [bnd hloop]
   exact XdG
def isS : Nat → Fil → Bool
 | 0, _ => false
 | n + 1, f =>
  if XcC f.Kind = true then f.Attr == [] && f.Value == [] && decide ((Sl.l f.Subs).length = 0) && (decide (f.Kind ≠ 3) || decide ((Sl.l f.Kids).length = 1)) && (Sl.l f.Kids).all (isS n)
  else if f.Kind = 7 then Xip f.Attr && f.Value == [] && decide ((Sl.l f.Subs).length = 0) && decide ((Sl.l f.Kids).length = 0)
  else if f.Kind = 8 then Xip f.Attr && f.Value == [] && decide ((Sl.l f.Kids).length = 0) && XdI (Sl.l f.Subs)
  else if f.Kind = 4 ∨ f.Kind = 5 ∨ f.Kind = 6 then Xip f.Attr && decide (f.Value.length ≤ 60) && decide ((Sl.l f.Subs).length = 0) && decide ((Sl.l f.Kids).length = 0)
  else false
theorem len0 {α : Type} (x : Sl α) : (Sl.len x == 0) = decide ((Sl.l x).length = 0) := by
 rw [Bool.eq_iff_iff, beq_iff_eq, decide_eq_true_eq]; simp only [Sl.len]; omega
theorem f31 (rc : Fil → Option Bool) (q : Fil → Bool) (k : Nat) (x : Sl Fil) (hk : (Sl.l x).length < k) (hk2 : k < 9223372036854775000) (hq : ∀ g ∈ Sl.l x, rc g = some (q g)) : Xga k rc x = some (!(Sl.l x).all q) := by
 have L : ∀ (j n i : Nat), i + j = (Sl.l x).length → j < n → ∃ o, Xcd rc k x (Sl.len x) n (i : Int) = some o ∧ (match o with | .ret r => 0 ≤ r ∧ ((Sl.l x).drop i).all q = false | .brk _ => ((Sl.l x).drop i).all q = true) := by
  intro j
  induction j with
  | zero =>
   intro n i hij hn
   obtain ⟨m, rfl⟩ : ∃ m, n = m + 1 := ⟨n - 1, by omega⟩
   rw [Xcd, if_neg (by simp [Sl.len]; omega)]
   exact ⟨_, rfl, by simp only; rw [List.drop_eq_nil_of_le (by omega)]; rfl⟩
  | succ j ih =>
   intro n i hij hn
   obtain ⟨m, rfl⟩ : ∃ m, n = m + 1 := ⟨n - 1, by omega⟩
   have hi : i < (Sl.l x).length := by omega
   have hF : F88 k rc (Sl.l x)[i] = some (!q (Sl.l x)[i]) := by
    unfold F88; rw [bnd (hq _ (List.getElem_mem hi))]
   have hd : (Sl.l x).drop i = (Sl.l x)[i] :: (Sl.l x).drop (i + 1) := List.drop_eq_getElem_cons hi
   rw [Xcd, if_pos (decide_eq_true (by simp only [Sl.len]; omega)), bnd (Xbj (List.getElem?_eq_getElem hi)), bnd hF, hd, List.all_cons]
   cases hv : q (Sl.l x)[i]
   ·exact ⟨.ret (i : Int), rfl, by simp only; exact ⟨by omega, rfl⟩⟩
   ·simp only [Bool.not_true, Bool.false_eq_true, if_false, Bool.true_and]
    rw [XaK (by omega)]
    exact ih m (i + 1) (by omega) (by omega)
 obtain ⟨o, h1, h2⟩ := L (Sl.l x).length k 0 (by omega) hk
 have h1' : Xcd rc k x (Sl.len x) k 0 = some o := h1
 unfold Xga Xhw
 rw [bnd h1']
 cases o with
 | ret r => simp only [List.drop_zero] at h2; simp only [Option.bind_some]; rw [h2.2, decide_eq_true h2.1]; rfl
 | brk v => simp only [List.drop_zero] at h2; simp only [Option.bind_some]; rw [h2]; rfl
theorem f68 : ∀ (n k : Nat) (f : Fil), XcZ n f → n + 200110 ≤ k → k < 400000000000000 → F68 k f = some (isS n f)
 | 0, k, f, h, _, _ => h.elim
 | n + 1, 0, f, _, hk, _ => by omega
 | n + 1, k + 1, f, h, hk, hk2 => by
  obtain ⟨h1, h2, h3, h4, h5, h6⟩ := h
  have hc : Xga k (F68 k) f.Kids = some (!(Sl.l f.Kids).all (isS n)) := f31 (F68 k) (isS n) k f.Kids (by omega) (by omega) (fun g hg => f68 n k g (h6 g hg) (by omega) (by omega))
  have hp : F90 k f.Subs = some (XdI (Sl.l f.Subs)) := f90 (by omega) f.Subs h4 h5
  have ht : F89 k f.Attr = some (Xip f.Attr) := f89 (by omega) f.Attr
  have h1e : (Sl.len f.Kids != 1) = !decide ((Sl.l f.Kids).length = 1) := by
   rw [Bool.eq_iff_iff, bne_iff_ne, Bool.not_eq_true', decide_eq_false_iff_not]; simp only [Sl.len]; omega
  have hv : decide (Str.len f.Value ≤ 60) = decide (f.Value.length ≤ 60) := by rw [decide_eq_decide]; simp only [Str.len]; omega
  rw [F68]
  simp only [hc, hp, ht, h1e, hv, Option.bind_some, len0, Bool.not_not, isS]
  by_cases k3 : f.Kind = 3
  ·have e1 : XcC f.Kind = true := by rw [k3]; rfl
   rw [if_pos e1]
   simp only [k3, beq_self_eq_true, if_true, ne_eq, not_true_eq_false, decide_false, Bool.false_or]
   cases decide ((Sl.l f.Kids).length = 1)
   ·simp
   ·simp only [Bool.not_true, Bool.false_eq_true, if_false, Bool.and_true]
    cases ((f.Attr == []) && (f.Value == []) && decide ((Sl.l f.Subs).length = 0)) <;> simp
  ·have e3 : (f.Kind == 3) = false := by simpa using k3
   simp only [e3, Bool.false_eq_true, if_false]
   by_cases k1 : f.Kind = 1
   ·have e1 : XcC f.Kind = true := by rw [k1]; rfl
    rw [if_pos e1]
    simp only [k1, beq_self_eq_true, if_true, Option.bind_some]
    cases ((f.Attr == []) && (f.Value == []) && decide ((Sl.l f.Subs).length = 0)) <;> simp
   ·have e1' : (f.Kind == 1) = false := by simpa using k1
    simp only [e1', Bool.false_eq_true, if_false, Option.bind_some]
    by_cases k2 : f.Kind = 2
    ·have e1 : XcC f.Kind = true := by rw [k2]; rfl
     rw [if_pos e1]
     simp only [k2, beq_self_eq_true, if_true, Option.bind_some]
     cases ((f.Attr == []) && (f.Value == []) && decide ((Sl.l f.Subs).length = 0)) <;> simp
    ·have e2 : (f.Kind == 2) = false := by simpa using k2
     have e0 : ¬ XcC f.Kind = true := by
      unfold XcC; rw [Bool.and_eq_true, decide_eq_true_eq, decide_eq_true_eq]; omega
     rw [if_neg e0]
     simp only [e2, Bool.false_eq_true, if_false, Option.bind_some]
     by_cases k7 : f.Kind = 7
     ·simp [k7]
     ·have e7 : (f.Kind == 7) = false := by simpa using k7
      simp only [e7, Bool.false_eq_true, if_false]
      rw [if_neg k7]
      by_cases k8 : f.Kind = 8
      ·simp only [k8, beq_self_eq_true, if_true]
       cases (Xip f.Attr && (f.Value == []) && decide ((Sl.l f.Kids).length = 0)) <;> simp
      ·have e8 : (f.Kind == 8) = false := by simpa using k8
       simp only [e8, Bool.false_eq_true, if_false]
       rw [if_neg k8]
       by_cases k4 : f.Kind = 4
       ·simp [k4]
       ·have e4 : (f.Kind == 4) = false := by simpa using k4
        simp only [e4, Bool.false_eq_true, if_false, Option.bind_some]
        by_cases k5 : f.Kind = 5
        ·simp [k5]
        ·have e5 : (f.Kind == 5) = false := by simpa using k5
         simp only [e5, Bool.false_eq_true, if_false, Option.bind_some]
         by_cases k6 : f.Kind = 6
         ·simp [k6]
         ·have e6 : (f.Kind == 6) = false := by simpa using k6
          simp [e6, k4, k5, k6]
/-! The same -/
def Xcn : Nat → Fil → Fil → Bool
 | 0, _, _ => false
 | n + 1, f, g => decide (f.Kind = g.Kind) && (f.Attr == g.Attr) && (f.Value == g.Value) && (Sl.l f.Subs == Sl.l g.Subs) && decide ((Sl.l f.Kids).length = (Sl.l g.Kids).length) && XaP (fun i x => match (Sl.l g.Kids)[i]? with | some y => Xcn n x y | none => false) 0 (Sl.l f.Kids)
theorem Xhz : ∀ (i : Nat) (l m : List Str), l.length = m.length → ∀ (full : List Str), (∀ j, m[j]? = full[i + j]?) → XaP (fun i x => match full[i]? with | some y => x == y | none => false) i l = (l == m)
 | i, [], [], _, _, _ => rfl
 | i, x :: l, y :: m, h, full, hf => by
  have h0 : full[i]? = some y := by have := hf 0; simpa using this.symm
  have ih := Xhz (i + 1) l m (by simpa using h) full (fun j => by have := hf (j + 1); rw [show i + 1 + j = i + (j + 1) by omega]; simpa using this)
  show ((match full[i]? with | some y => x == y | none => false) && _) = _
  rw [ih, h0]
  rfl
theorem f39 (k : Nat) (x y : Sl Str) (hl : (Sl.l x).length ≤ 200000) (hk : 200100 ≤ k) : F39 k x y = some (Sl.l x == Sl.l y) := by
 unfold F39
 by_cases he : (Sl.l x).length = (Sl.l y).length
 ·have hloop := Xbe (Sl.l x) (fun i s => match (Sl.l y)[i]? with | some z => s == z | none => false) (XfX k x y (Sl.len x)) (by
   intro n i s hs
   have hi := XbP hs
   have hy : (Sl.l y)[i]? = some (Sl.l y)[i] := List.getElem?_eq_getElem (by omega)
   rw [XfX, if_pos (decide_eq_true (by simp only [Sl.len]; omega)), bnd (Xbj hs), bnd (Xbj hy), XaK (by omega)]
   simp only [hy]
   cases s == (Sl.l y)[i] <;> rfl) (by
   intro n; rw [XfX, if_neg (by simp [Sl.len])]) (n := k) (by omega)
  rw [Xhz 0 (Sl.l x) (Sl.l y) he (Sl.l y) (fun j => by rw [Nat.zero_add])] at hloop
  rw [if_neg (by simp [Sl.len, he]), bnd hloop]
  exact XdG
 ·rw [if_pos (by simp only [Sl.len, bne_iff_ne, ne_eq]; omega)]
  have : (Sl.l x == Sl.l y) = false := by rw [beq_eq_false_iff_ne]; intro h; exact he (by rw [h])
  rw [this]
theorem f38 : ∀ (n k : Nat) (f g : Fil), XcZ n f → XcZ n g → n + 200110 ≤ k → k < 400000000000000 → F38 k f g = some (Xcn n f g)
 | 0, k, f, g, h, _, _, _ => h.elim
 | n + 1, 0, f, g, _, _, hk, _ => by omega
 | n + 1, k + 1, f, g, h, hg, hk, hk2 => by
  obtain ⟨h1, h2, h3, h4, h5, h6⟩ := h
  obtain ⟨g1, g2, g3, g4, g5, g6⟩ := hg
  have hsub := f39 k f.Subs g.Subs h4 (by omega)
  have hkids : Xik k (F38 k) f.Kids g.Kids = some (decide ((Sl.l f.Kids).length = (Sl.l g.Kids).length) && XaP (fun i x => match (Sl.l g.Kids)[i]? with | some y => Xcn n x y | none => false) 0 (Sl.l f.Kids)) := by
   unfold Xik
   by_cases he : (Sl.l f.Kids).length = (Sl.l g.Kids).length
   ·have hloop := Xbe (Sl.l f.Kids) (fun i x => match (Sl.l g.Kids)[i]? with | some y => Xcn n x y | none => false) (XcM (F38 k) k g.Kids f.Kids (Sl.len f.Kids)) (by
     intro m i s hs
     have hi := XbP hs
     have hy : (Sl.l g.Kids)[i]? = some (Sl.l g.Kids)[i] := List.getElem?_eq_getElem (by omega)
     rw [XcM, if_pos (decide_eq_true (by simp only [Sl.len]; omega)), bnd (Xbj hs), bnd (Xbj hy), XaK (by omega), bnd (f38 n k s _ (h6 s (XaQ hs)) (g6 _ (XaQ hy)) (by omega) (by omega))]
     simp only [hy]
     cases Xcn n s (Sl.l g.Kids)[i] <;> rfl) (by
     intro m; rw [XcM, if_neg (by simp [Sl.len])]) (n := k) (by omega)
    rw [if_neg (by simp [Sl.len, he]), bnd hloop, decide_eq_true he, Bool.true_and]
    exact XdG
   ·rw [if_pos (by simp only [Sl.len, bne_iff_ne, ne_eq]; omega), decide_eq_false he, Bool.false_and]
  rw [F38, hsub, hkids]
  simp only [Option.bind_some, Xcn]
  have ek : (f.Kind == g.Kind) = decide (f.Kind = g.Kind) := by rw [Bool.eq_iff_iff, beq_iff_eq, decide_eq_true_eq]
  rw [ek]
  cases decide (f.Kind = g.Kind) <;> cases (f.Attr == g.Attr) <;> cases (f.Value == g.Value) <;> cases (Sl.l f.Subs == Sl.l g.Subs) <;> simp
theorem f42 : ∀ (n k : Nat) (f g : Fil), XcZ n f → XcZ n g → n + 200110 ≤ k → k < 400000000000000 → F42 k f g = some (Xcn n f g)
 | 0, k, f, g, h, _, _, _ => h.elim
 | n + 1, 0, f, g, _, _, hk, _ => by omega
 | n + 1, k + 1, f, g, h, hg, hk, hk2 => by
  obtain ⟨h1, h2, h3, h4, h5, h6⟩ := h
  obtain ⟨g1, g2, g3, g4, g5, g6⟩ := hg
  rw [F42]
  simp only [Xcn]
  have ek : (f.Kind != g.Kind) = !decide (f.Kind = g.Kind) := by rw [Bool.eq_iff_iff, bne_iff_ne, Bool.not_eq_true', decide_eq_false_iff_not]
  have es : (Sl.len f.Subs != Sl.len g.Subs) = !decide ((Sl.l f.Subs).length = (Sl.l g.Subs).length) := by rw [Bool.eq_iff_iff, bne_iff_ne, Bool.not_eq_true', decide_eq_false_iff_not]; simp only [Sl.len]; omega
  have ekd : (Sl.len f.Kids != Sl.len g.Kids) = !decide ((Sl.l f.Kids).length = (Sl.l g.Kids).length) := by rw [Bool.eq_iff_iff, bne_iff_ne, Bool.not_eq_true', decide_eq_false_iff_not]; simp only [Sl.len]; omega
  rw [ek, es, ekd]
  by_cases he : (Sl.l f.Subs).length = (Sl.l g.Subs).length
  ·by_cases hq : (Sl.l f.Kids).length = (Sl.l g.Kids).length
   ·have hl0 := Xbe (Sl.l f.Subs) (fun i s => match (Sl.l g.Subs)[i]? with | some z => s == z | none => false) (Xgd (F42 k) k g f) (by
     intro m i s hs
     have hi := XbP hs
     have hy : (Sl.l g.Subs)[i]? = some (Sl.l g.Subs)[i] := List.getElem?_eq_getElem (by omega)
     rw [Xgd, if_pos (decide_eq_true (by simp only [Sl.len]; omega)), bnd (Xbj hs), bnd (Xbj hy), XaK (by omega)]
     simp only [hy]
     cases s == (Sl.l g.Subs)[i] <;> rfl) (by
     intro m; rw [Xgd, if_neg (by simp [Sl.len])]) (n := k) (by omega)
    rw [Xhz 0 _ _ he (Sl.l g.Subs) (fun j => by rw [Nat.zero_add])] at hl0
    have hl2 := Xbe (Sl.l f.Kids) (fun i x => match (Sl.l g.Kids)[i]? with | some y => Xcn n x y | none => false) (Xge (F42 k) k g f) (by
     intro m i s hs
     have hi := XbP hs
     have hy : (Sl.l g.Kids)[i]? = some (Sl.l g.Kids)[i] := List.getElem?_eq_getElem (by omega)
     rw [Xge, if_pos (decide_eq_true (by simp only [Sl.len]; omega)), bnd (Xbj hs), bnd (Xbj hy), XaK (by omega), bnd (f42 n k s _ (h6 s (XaQ hs)) (g6 _ (XaQ hy)) (by omega) (by omega))]
     simp only [hy]
     cases Xcn n s (Sl.l g.Kids)[i] <;> rfl) (by
     intro m; rw [Xge, if_neg (by simp [Sl.len])]) (n := k) (by omega)
    rw [decide_eq_true he, decide_eq_true hq]
    simp only [Bool.not_true, Bool.or_false, Bool.and_true]
    rw [bnd hl0, bnd hl2]
    cases decide (f.Kind = g.Kind) <;> cases (f.Attr == g.Attr) <;> cases (f.Value == g.Value) <;> cases (Sl.l f.Subs == Sl.l g.Subs) <;> cases XaP (fun i x => match (Sl.l g.Kids)[i]? with | some y => Xcn n x y | none => false) 0 (Sl.l f.Kids) <;> rfl
   ·rw [decide_eq_false hq]
    simp
  ·have : (Sl.l f.Subs == Sl.l g.Subs) = false := by rw [beq_eq_false_iff_ne]; intro h; exact he (by rw [h])
   rw [decide_eq_false he, this]
   simp
theorem f91 {k : Nat} (hk : 20 ≤ k) (s : Str) : F91 k s = some (Xip s) := by
 cases s with
 | nil => unfold F91; rfl
 | cons c r =>
  by_cases hlen : r.length ≤ 15
  ·have hl : Xfh k (c :: r) k 0 = some (if XaP (fun _ (c : UInt8) => XdH c.toNat) 0 (c :: r) = true then .brk (((c :: r).length : Nat) : Int) else .ret false) := by
    refine Xbe (c :: r) (fun _ c => XdH c.toNat) (Xfh k (c :: r)) ?_ ?_ (by simp; omega)
    ·intro n i y hy
     have hi := XbP hy
     have ha : Str.at? (c :: r) (i : Int) = some (y.toNat : Int) := by rw [Str.at?_nat, hy]; rfl
     rw [Xfh, if_pos (decide_eq_true (by simp only [Str.len]; omega)), bnd ha, XaK (by simp at hi; omega)]
     have : ((((decide ((y.toNat : Int) < 97)) || (decide ((y.toNat : Int) > 122))) && ((decide ((y.toNat : Int) < 48)) || (decide ((y.toNat : Int) > 57)))) && ((y.toNat : Int) != 45)) = !XdH y.toNat := by
      unfold XdH
      rw [Bool.eq_iff_iff]
      simp only [Bool.and_eq_true, Bool.or_eq_true, decide_eq_true_eq, bne_iff_ne, Bool.not_eq_true', ne_eq, Bool.or_eq_false_iff, Bool.and_eq_false_iff, decide_eq_false_iff_not, beq_eq_false_iff_ne]
      omega
     rw [this]
     cases XdH y.toNat <;> rfl
    ·intro n
     rw [Xfh, if_neg (by simp [Str.len])]
   unfold F91
   have ha : Str.at? (c :: r) 0 = some (c.toNat : Int) := rfl
   have hl1 : decide (Str.len (c :: r) < 1) = false := decide_eq_false (by simp only [Str.len, List.length_cons]; omega)
   have hl16 : decide (Str.len (c :: r) > 16) = false := decide_eq_false (by simp only [Str.len, List.length_cons]; omega)
   simp only [ha, hl1, hl16, Option.bind_some, Bool.or_false, Bool.false_eq_true, if_false]
   rw [Xbw] at hl
   unfold Xip
   simp only [hlen, decide_true, Bool.true_and]
   by_cases h1 : (c.toNat : Int) < 97
   ·have : decide ((c.toNat : Int) ≥ 97) = false := decide_eq_false (by omega)
    simp only [this, Bool.false_and]
    simp [h1]
   ·have g1 : decide ((c.toNat : Int) ≥ 97) = true := decide_eq_true (by omega)
    have g1' : decide ((c.toNat : Int) < 97) = false := decide_eq_false h1
    simp only [g1, g1', Bool.true_and, Bool.false_eq_true, if_false, Option.bind_some]
    by_cases h2 : (c.toNat : Int) > 122
    ·have : decide ((c.toNat : Int) ≤ 122) = false := decide_eq_false (by omega)
     simp only [this, Bool.false_and, decide_eq_true h2, if_true]
    ·have g2 : decide ((c.toNat : Int) ≤ 122) = true := decide_eq_true (by omega)
     have g2' : decide ((c.toNat : Int) > 122) = false := decide_eq_false h2
     simp only [g2, g2', Bool.true_and, Bool.false_eq_true, if_false]
     rw [bnd hl]
     exact XdG
  ·unfold F91 Xip
   have hl16 : decide (Str.len (c :: r) > 16) = true := decide_eq_true (by simp only [Str.len, List.length_cons]; omega)
   have : decide (r.length ≤ 15) = false := decide_eq_false hlen
   simp [hl16, this]
theorem f69L (rc : Fil → Option Int) (k : Nat) (f : Fil) (q : Fil → Int) (hq : ∀ g ∈ (Sl.l f.Kids), rc g = some (q g) ∧ 1 ≤ q g ∧ q g ≤ 21) (hl : (Sl.l f.Kids).length ≤ 200000) :
  ∀ (j n i : Nat) (x : Int), i + j = (Sl.l f.Kids).length → j < n → 0 ≤ x → x ≤ 1000 → ∃ i', Xfg rc k f n x (i : Int) = some (cl (((Sl.l f.Kids).drop i).map q) x, i')
 | j, 0, i, x, _, h, _, _ => by omega
 | 0, n + 1, i, x, hij, _, _, _ => by
  have : i = (Sl.l f.Kids).length := by omega
  subst this
  rw [Xfg, if_neg (by simp [Sl.len])]
  simp [cl]
 | j + 1, n + 1, i, x, hij, hn, h0, h1 => by
  have hi : i < (Sl.l f.Kids).length := by omega
  have hd : ((Sl.l f.Kids).drop i).map q = q (Sl.l f.Kids)[i] :: ((Sl.l f.Kids).drop (i + 1)).map q := by rw [List.drop_eq_getElem_cons hi]; rfl
  obtain ⟨q1, q2, q3⟩ := hq (Sl.l f.Kids)[i] (List.getElem_mem hi)
  rw [Xfg, hd]
  have hlt : decide ((i : Int) < Sl.len f.Kids) = true := decide_eq_true (by simp only [Sl.len]; omega)
  simp only [hlt, Bool.true_and, cl]
  by_cases hx : x ≤ 20
  ·rw [if_pos (decide_eq_true hx), if_pos hx, bnd (Xbj (List.getElem?_eq_getElem hi)), bnd q1, XaK (by omega), XeC (by omega)]
   exact f69L rc k f q hq hl j n (i + 1) _ (by omega) (by omega) (by omega) (by omega)
  ·rw [if_neg (by simpa using hx), if_neg hx]
   exact ⟨_, rfl⟩
theorem f69 : ∀ (n k : Nat) (f : Fil), XcZ n f → n + 200100 ≤ k → F69 k f = some (cS n f)
 | 0, k, f, h, _ => h.elim
 | n + 1, 0, f, _, hk => by omega
 | n + 1, k + 1, f, h, hk => by
  obtain ⟨h1, h2, h3, h4, h5, h6⟩ := h
  rw [F69]
  by_cases hkk : XcC f.Kind = true
  ·obtain ⟨i', hL⟩ := f69L (F69 k) k f (cS n) (fun g hg => ⟨f69 n k g (h6 g hg) (by omega), XdR n g⟩) h1 (Sl.l f.Kids).length k 0 1 (by omega) (by omega) (by omega) (by omega)
   rw [List.drop_zero] at hL
   have hL' : Xfg (F69 k) k f k 1 0 = some (cl ((Sl.l f.Kids).map (cS n)) 1, i') := hL
   rw [if_pos (show ((decide (f.Kind ≥ 1)) && (decide (f.Kind ≤ 3))) = true from hkk), bnd hL']
   simp only [Option.bind_some, cS, hkk, if_true]
  ·rw [if_neg (show ¬ ((decide (f.Kind ≥ 1)) && (decide (f.Kind ≤ 3))) = true from hkk)]
   simp only [Option.bind_some, cS, hkk]
   rfl
theorem f92L (k : Nat) (x : Sl Str) (h1 : x.l.length ≤ 200000) : ∀ (j n i : Nat) (b : Bool), i + j = x.l.length → j < n →
  Xfi k x n b (i : Int) = some (if XaP (XcU x.l.length) i (x.l.drop i) = true then .brk (b || (x.l.drop i).any (fun s => !(s == [])), ((x.l.length : Nat) : Int)) else .ret false)
 | j, 0, i, b, _, h => by omega
 | 0, n + 1, i, b, hij, _ => by
  have : i = x.l.length := by omega
  subst this
  rw [Xfi, if_neg (by simp [Sl.len])]
  simp [XaP]
 | j + 1, n + 1, i, b, hij, hn => by
  have hi : i < x.l.length := by omega
  have ha : Sl.at? x (i : Int) = some x.l[i] := Xbj (List.getElem?_eq_getElem hi)
  have hd : x.l.drop i = x.l[i] :: x.l.drop (i + 1) := List.drop_eq_getElem_cons hi
  have hA : XaP (XcU x.l.length) i (x.l.drop i) = (XcU x.l.length i x.l[i] && XaP (XcU x.l.length) (i + 1) (x.l.drop (i + 1))) := by rw [hd]; rfl
  have hB : (x.l.drop i).any (fun s => !(s == [])) = (!(x.l[i] == []) || (x.l.drop (i + 1)).any (fun s => !(s == []))) := by rw [hd]; rfl
  have key : (if decide ((Str.len x.l[i]) > 60) = true then some true else
    Option.bind (Sl.at? x (i : Int)) fun y140 => some (((y140 == []) && (decide ((i : Int) > 0))) && (decide ((i : Int) < (sb .i64 (Sl.len x) 1))))) = some (!XcU x.l.length i x.l[i]) := by
   rw [← Xiq x.l i x.l[i] h1, show Sl.len x = ((x.l.length : Nat) : Int) from rfl]
   cases decide (Str.len x.l[i] > 60)
   ·simp only [Bool.false_eq_true, if_false, ha, Option.bind_some, Bool.false_or]
   ·simp only [if_true, Bool.true_or]
  have key2 : (if b = true then some true else Option.bind (Sl.at? x (i : Int)) fun y150 => some (!(y150 == []))) = some (b || !(x.l[i] == [])) := by
   cases b
   ·simp only [Bool.false_eq_true, if_false, ha, Option.bind_some, Bool.false_or]
   ·simp only [if_true, Bool.true_or]
  rw [Xfi, if_pos (decide_eq_true (by simp only [Sl.len]; omega)), bnd ha, bnd key, hA, hB]
  cases hp : XcU x.l.length i x.l[i]
  ·simp
  ·simp only [Bool.not_true, Bool.false_eq_true, if_false]
   rw [bnd key2, XaK (by omega), f92L k x h1 j n (i + 1) _ (by omega) (by omega)]
   simp only [Bool.true_and, Bool.or_assoc]
theorem f92 {k : Nat} (hk : 200100 ≤ k) (x : Sl Str) (h1 : x.l.length ≤ 200000) : F92 k x = some (XdI x.l) := by
 unfold F92 XdI
 by_cases hc : ((decide ((Sl.len x) < 2)) || (decide ((Sl.len x) > 20))) = true
 ·rw [if_pos hc]
  have : (decide (2 ≤ x.l.length) && decide (x.l.length ≤ 20)) = false := by
   simp only [Bool.or_eq_true, decide_eq_true_eq] at hc; simp only [Sl.len] at hc
   rw [Bool.and_eq_false_iff, decide_eq_false_iff_not, decide_eq_false_iff_not]; omega
  rw [this]; rfl
 ·rw [if_neg hc]
  have hr : (decide (2 ≤ x.l.length) && decide (x.l.length ≤ 20)) = true := by
   simp only [Bool.or_eq_true, decide_eq_true_eq] at hc; simp only [Sl.len] at hc
   rw [Bool.and_eq_true, decide_eq_true_eq, decide_eq_true_eq]; omega
  have hL := f92L k x h1 x.l.length k 0 false (by omega) (by omega)
  rw [List.drop_zero] at hL
  have hL' : Xfi k x k false 0 = _ := hL
  rw [bnd hL', hr]
  cases XaP (XcU x.l.length) 0 x.l <;> cases x.l.any (fun s => !(s == [])) <;> rfl
theorem f70 : ∀ (n k : Nat) (f : Fil), XcZ n f → n + 200110 ≤ k → k < 400000000000000 → F70 k f = some (isS n f)
 | 0, k, f, h, _, _ => h.elim
 | n + 1, 0, f, _, hk, _ => by omega
 | n + 1, k + 1, f, h, hk, hk2 => by
  obtain ⟨h1, h2, h3, h4, h5, h6⟩ := h
  have hloop := Xbe (Sl.l f.Kids) (fun _ g => isS n g) (Xgj (F70 k) k f) (by
   intro m i y hy
   have hi := XbP hy
   rw [Xgj, if_pos (decide_eq_true (by simp only [Sl.len]; omega)), bnd (Xbj hy), XaK (by omega), bnd (f70 n k y (h6 y (XaQ hy)) (by omega) (by omega))]
   cases isS n y <;> rfl) (by
   intro m; rw [Xgj, if_neg (by simp [Sl.len])]) (n := k) (by omega)
  rw [Xbw] at hloop
  have hp : F92 k f.Subs = some (XdI (Sl.l f.Subs)) := f92 (by omega) f.Subs h4
  have ht : F91 k f.Attr = some (Xip f.Attr) := f91 (by omega) f.Attr
  have h1e : (Sl.len f.Kids != 1) = !decide ((Sl.l f.Kids).length = 1) := by
   rw [Bool.eq_iff_iff, bne_iff_ne, Bool.not_eq_true', decide_eq_false_iff_not]; simp only [Sl.len]; omega
  have hv : decide (Str.len f.Value ≤ 60) = decide (f.Value.length ≤ 60) := by rw [decide_eq_decide]; simp only [Str.len]; omega
  have s0 : decide (Sl.len f.Subs > 0) = !decide ((Sl.l f.Subs).length = 0) := by
   rw [Bool.eq_iff_iff, decide_eq_true_eq, Bool.not_eq_true', decide_eq_false_iff_not]; simp only [Sl.len]; omega
  have q0 : decide (Sl.len f.Kids > 0) = !decide ((Sl.l f.Kids).length = 0) := by
   rw [Bool.eq_iff_iff, decide_eq_true_eq, Bool.not_eq_true', decide_eq_false_iff_not]; simp only [Sl.len]; omega
  rw [F70]
  rw [show ((decide (f.Kind ≥ 1)) && (decide (f.Kind ≤ 3))) = XcC f.Kind from rfl]
  simp only [hloop, hp, ht, h1e, hv, s0, q0, Option.bind_some, len0, isS]
  by_cases hk3 : XcC f.Kind = true
  ·rw [if_pos hk3, if_pos hk3]
   have e3 : (f.Kind == 3) = decide (f.Kind = 3) := by rw [Bool.eq_iff_iff, beq_iff_eq, decide_eq_true_eq]
   have e3' : decide (f.Kind ≠ 3) = !decide (f.Kind = 3) := by simp
   rw [e3, e3']
   cases (f.Attr == []) <;> cases (f.Value == []) <;> cases decide ((Sl.l f.Subs).length = 0) <;> cases decide (f.Kind = 3) <;> cases decide ((Sl.l f.Kids).length = 1) <;> cases (Sl.l f.Kids).all (isS n) <;> simp
  ·rw [if_neg hk3, if_neg hk3]
   have hnk : ¬ (1 ≤ f.Kind ∧ f.Kind ≤ 3) := by
    intro hh; apply hk3; unfold XcC; rw [Bool.and_eq_true, decide_eq_true_eq, decide_eq_true_eq]; omega
   by_cases hr : 4 ≤ f.Kind ∧ f.Kind ≤ 8
   ·have r1 : decide (f.Kind < 4) = false := decide_eq_false (by omega)
    have r2 : decide (f.Kind > 8) = false := decide_eq_false (by omega)
    simp only [r1, r2, Bool.false_or]
    by_cases k7 : f.Kind = 7
    ·simp only [k7, beq_self_eq_true, if_true]
     cases decide ((Sl.l f.Kids).length = 0) <;> cases Xip f.Attr <;> cases (f.Value == []) <;> cases decide ((Sl.l f.Subs).length = 0) <;> simp
    ·have e7 : (f.Kind == 7) = false := by simpa using k7
     rw [if_neg k7]
     simp only [e7, Bool.false_eq_true, if_false]
     by_cases k8 : f.Kind = 8
     ·simp only [k8, beq_self_eq_true, if_true]
      cases decide ((Sl.l f.Kids).length = 0) <;> cases Xip f.Attr <;> cases (f.Value == []) <;> simp
     ·have e8 : (f.Kind == 8) = false := by simpa using k8
      rw [if_neg k8, if_pos (show f.Kind = 4 ∨ f.Kind = 5 ∨ f.Kind = 6 by omega)]
      simp only [e8, Bool.false_eq_true, if_false]
      cases decide ((Sl.l f.Kids).length = 0) <;> cases Xip f.Attr <;> cases decide (f.Value.length ≤ 60) <;> cases decide ((Sl.l f.Subs).length = 0) <;> simp
   ·have r1 : (decide (f.Kind < 4) || decide (f.Kind > 8)) = true := by rw [Bool.or_eq_true, decide_eq_true_eq, decide_eq_true_eq]; omega
    rw [if_neg (show ¬ f.Kind = 7 by omega), if_neg (show ¬ f.Kind = 8 by omega), if_neg (show ¬ (f.Kind = 4 ∨ f.Kind = 5 ∨ f.Kind = 6) by omega)]
    simp [r1]
def Xi8 {α : Type} (p : α → α → Bool) : List α → List α → Bool
 | [], [] => true
 | x :: xs, y :: ys => p x y && Xi8 p xs ys
 | _, _ => false
theorem Xh0 {α : Type} {p : α → α → Bool} : ∀ {l m : List α}, Xi8 p l m = true → l.length = m.length
 | [], [], _ => rfl
 | x :: xs, y :: ys, h => by
  have h' : (p x y && Xi8 p xs ys) = true := h
  rw [Bool.and_eq_true] at h'
  rw [List.length_cons, List.length_cons, Xh0 h'.2]
 | [], _ :: _, h => by cases h
 | _ :: _, [], h => by cases h
theorem Xir {α : Type} (p : α → α → Bool) (full : List α) : ∀ (i : Nat) (l m : List α), l.length = m.length → (∀ j, m[j]? = full[i + j]?) →
  XaP (fun i x => match full[i]? with | some y => p x y | none => false) i l = Xi8 p l m
 | _, [], [], _, _ => rfl
 | i, x :: xs, y :: ys, hl, hf => by
  have h0 : full[i]? = some y := by have := hf 0; simpa using this.symm
  have ih := Xir p full (i + 1) xs ys (by simpa using hl) (fun j => by have := hf (j + 1); rw [show i + 1 + j = i + (j + 1) by omega]; simpa using this)
  show ((match full[i]? with | some y => p x y | none => false) && XaP _ (i + 1) xs) = (p x y && Xi8 p xs ys)
  rw [h0, ih]
 | _, [], _ :: _, h, _ => by simp at h
 | _, _ :: _, [], h, _ => by simp at h
theorem Xh1 {α : Type} (l m : List α) (hlm : l.length = m.length) (p : α → α → Bool) (Lf : Nat → Int → Option (Out Bool Int))
  (h1 : ∀ (n i : Nat) (x y : α), l[i]? = some x → m[i]? = some y → Lf (n + 1) (i : Int) = if p x y = true then Lf n ((i + 1 : Nat) : Int) else some (.ret false))
  (h2 : ∀ n, Lf (n + 1) ((l.length : Nat) : Int) = some (.brk ((l.length : Nat) : Int))) {n : Nat} (hn : l.length < n) :
  Lf n 0 = some (if Xi8 p l m = true then .brk ((l.length : Nat) : Int) else .ret false) := by
 rw [← Xir p m 0 l m hlm (fun j => by rw [Nat.zero_add])]
 refine Xbe l _ Lf ?_ h2 hn
 intro n i x hx
 have hi := XbP hx
 have hy : m[i]? = some m[i] := List.getElem?_eq_getElem (by omega)
 rw [h1 n i x _ hx hy]
 simp only [hy]
/-! Modifications -/
def Xh2 (a b : Xat) : Bool := a.Kind == b.Kind && a.Attr == b.Attr && (Sl.l a.Values == Sl.l b.Values)
def XdJ (a : Xat) : Prop := a.Attr.length ≤ 500 ∧ (Sl.l a.Values).length ≤ 14 ∧ ∀ s ∈ Sl.l a.Values, s.length ≤ 500
def Xlp (a : Xat) : Prop := a.Attr.length ≤ 6000 ∧ (Sl.l a.Values).length ≤ 6000 ∧ ∀ s ∈ Sl.l a.Values, s.length ≤ 6000
theorem XdJ.w {a : Xat} (h : XdJ a) : Xlp a := ⟨by have := h.1; omega, by have := h.2.1; omega, fun s hs => by have := h.2.2 s hs; omega⟩
def Xgw (x y : Sl Xat) : Bool := Xi8 Xh2 (Sl.l x) (Sl.l y)
theorem XkJ {α β : Type} (x : Sl α) (y : Sl β) : (Sl.len x != Sl.len y) = !decide ((Sl.l x).length = (Sl.l y).length) := by
 rw [Bool.eq_iff_iff, bne_iff_ne, Bool.not_eq_true', decide_eq_false_iff_not]; simp only [Sl.len]; omega
theorem XiW {α : Type} {p : α → α → Bool} {l m : List α} (h : ¬ l.length = m.length) : Xi8 p l m = false := by
 cases e : Xi8 p l m
 ·rfl
 ·exact absurd (Xh0 e) h
theorem f41 {k : Nat} (hk : 200100 ≤ k) {a : Xat} (b : Xat) (ha : Xlp a) : F41 k a b = some (Xh2 a b) := by
 unfold F41 Xh2
 rw [f39 k _ _ (by have := ha.2.1; omega) hk]
 cases (a.Kind == b.Kind) <;> cases (a.Attr == b.Attr) <;> rfl
theorem f40 {k : Nat} (hk : 200100 ≤ k) (x y : Sl Xat) (hl : (Sl.l x).length ≤ 200000) (hx : ∀ a ∈ Sl.l x, Xlp a) : Xil k x y = some (Xgw x y) := by
 unfold Xil Xgw
 rw [XkJ]
 by_cases h : (Sl.l x).length = (Sl.l y).length
 ·rw [decide_eq_true h]
  have hL := Xh1 (Sl.l x) (Sl.l y) h Xh2 (XcN k y x (Sl.len x)) (by
   intro n i a b h1 h2
   have hi := XbP h1
   rw [XcN, if_pos (decide_eq_true (by simp only [Sl.len]; omega)), bnd (Xbj h1), bnd (Xbj h2), bnd (f41 hk b (hx a (XaQ h1))), XaK (by omega)]
   cases Xh2 a b <;> rfl) (by
   intro n; rw [XcN, if_neg (by simp [Sl.len])]) (n := k) (by omega)
  rw [if_neg (by simp), bnd hL]
  exact XdG
 ·rw [decide_eq_false h, if_pos (show (!false) = true from rfl), XiW h]
/-! Messages -/
abbrev Ms := Xay
def sc1 (a b : Ms) : Bool := a.ID == b.ID && a.Op == b.Op && a.Of == b.Of && a.Version == b.Version && a.Scope == b.Scope && a.Size == b.Size && a.Code == b.Code
def sc2 (a b : Ms) : Bool := (a.DelOld == b.DelOld) && (a.HasSup == b.HasSup) && (a.DN == b.DN) && (a.Pass == b.Pass) && (a.RDN == b.RDN) && (a.Sup == b.Sup) && (a.Attr == b.Attr) && (a.Value == b.Value) && (a.Matched == b.Matched)
def XdX (a b : Ms) : Bool := Xcn 22 a.Filter b.Filter && (Sl.l a.Wants == Sl.l b.Wants) && Xgw a.Mods b.Mods && sc1 a b && sc2 a b
structure Few (a : Ms) : Prop where
 dn : a.DN.length ≤ 500
 pass : a.Pass.length ≤ 500
 rdn : a.RDN.length ≤ 500
 sup : a.Sup.length ≤ 500
 attr : a.Attr.length ≤ 500
 value : a.Value.length ≤ 500
 matched : a.Matched.length ≤ 500
 wants : (Sl.l a.Wants).length ≤ 14
 want : ∀ s ∈ Sl.l a.Wants, s.length ≤ 500
 mods : (Sl.l a.Mods).length ≤ 14
 mod : ∀ m ∈ Sl.l a.Mods, XdJ m
 filter : XcZ 22 a.Filter
structure Xlq (a : Ms) : Prop where
 wants : (Sl.l a.Wants).length ≤ 6000
 mods : (Sl.l a.Mods).length ≤ 6000
 mod : ∀ m ∈ Sl.l a.Mods, Xlp m
 filter : XcZ 22 a.Filter
theorem Few.w {a : Ms} (h : Few a) : Xlq a := ⟨by have := h.wants; omega, by have := h.mods; omega, fun m hm => (h.mod m hm).w, h.filter⟩
theorem f13w {k : Nat} (hk : 200200 ≤ k) (hk2 : k < 400000000000000) {a b : Ms} (ha : Xlq a) (hb : XcZ 22 b.Filter) : F13 k a b = some (XdX a b) := by
 unfold F13
 rw [bnd (f38 22 k _ _ ha.filter hb (by omega) hk2), f39 k _ _ (by have := ha.wants; omega) (by omega), f40 (by omega) _ _ (by have := ha.mods; omega) ha.mod]
 unfold XdX sc1 sc2
 cases Xcn 22 a.Filter b.Filter
 ·simp
 ·simp only [if_true, Option.bind_some]
  cases (Sl.l a.Wants == Sl.l b.Wants)
  ·simp
  ·simp only [if_true, Option.bind_some]
   simp only [Bool.true_and, Bool.and_assoc]
def noF : Fil := ⟨0, [], [], none, none⟩
def Xcz (a : Ms) : Ms :=
 if a.Op = 1 then ⟨a.ID, a.Op, 0, a.DN, a.Version, a.Pass, 0, 0, noF, none, none, [], false, false, [], [], [], 0, []⟩
 else if a.Op = 3 then ⟨a.ID, a.Op, 0, a.DN, 0, [], a.Scope, a.Size, a.Filter, a.Wants, none, [], false, false, [], [], [], 0, []⟩
 else if a.Op = 4 ∨ a.Op = 5 ∨ a.Op = 10 then ⟨a.ID, a.Op, 0, a.DN, 0, [], 0, 0, noF, none, a.Mods, [], false, false, [], [], [], 0, []⟩
 else if a.Op = 6 then ⟨a.ID, a.Op, 0, a.DN, 0, [], 0, 0, noF, none, none, [], false, false, [], [], [], 0, []⟩
 else if a.Op = 7 then ⟨a.ID, a.Op, 0, a.DN, 0, [], 0, 0, noF, none, none, a.RDN, a.DelOld, a.HasSup, if a.HasSup = true then a.Sup else [], [], [], 0, []⟩
 else if a.Op = 8 then ⟨a.ID, a.Op, 0, a.DN, 0, [], 0, 0, noF, none, none, [], false, false, [], a.Attr, a.Value, 0, []⟩
 else if a.Op = 9 then ⟨a.ID, a.Op, a.Of, [], 0, [], 0, 0, noF, none, none, [], false, false, [], [], [], a.Code, a.Matched⟩
 else ⟨a.ID, a.Op, 0, [], 0, [], 0, 0, noF, none, none, [], false, false, [], [], [], 0, []⟩
theorem f30 {k : Nat} (a : Ms) : F30 k a = some (Xcz a) := by
 unfold F30 Xcz
 by_cases h1 : a.Op = 1
 ·simp [h1, noF]
 by_cases h3 : a.Op = 3
 ·simp [h3, noF]
 by_cases h4 : a.Op = 4
 ·simp [h4, noF]
 by_cases h5 : a.Op = 5
 ·simp [h5, noF]
 by_cases h10 : a.Op = 10
 ·simp [h10, noF]
 by_cases h6 : a.Op = 6
 ·simp [h6, noF]
 by_cases h7 : a.Op = 7
 ·cases hs : a.HasSup <;> simp [h7, noF, hs]
 by_cases h8 : a.Op = 8
 ·simp [h8, noF]
 by_cases h9 : a.Op = 9
 ·simp [h9, noF]
 simp [h1, h3, h4, h5, h6, h7, h8, h9, h10, noF]
theorem Xh3 (n : Nat) : XcZ (n + 1) noF := by
 rw [XcZ]
 exact ⟨Nat.zero_le _, Nat.zero_le _, Nat.zero_le _, Nat.zero_le _, (fun s hs => nomatch hs), (fun s hs => nomatch hs)⟩
theorem Xgx {a : Ms} (h : XcZ 22 a.Filter) : XcZ 22 (Xcz a).Filter := by
 unfold Xcz
 repeat' split
 all_goals first | exact h | exact Xh3 21
/-! Texts -/
def Xby (l : List Str) : Bool := l.all fun s => decide (s.length ≤ 400)
theorem XkK {α : Type} (l : List α) (p : α → Bool) (Lf : Nat → Int → Option (Out Int Int))
  (h1 : ∀ (n i : Nat) (y : α), l[i]? = some y → Lf (n + 1) (i : Int) = if p y = true then Lf n ((i + 1 : Nat) : Int) else some (.ret (i : Int)))
  (h2 : ∀ n, Lf (n + 1) ((l.length : Nat) : Int) = some (.brk ((l.length : Nat) : Int))) :
  ∀ (j n i : Nat), i + j = l.length → j < n → ∃ r, Lf n (i : Int) = some r ∧ (((l.drop i).all p = true ∧ r = .brk ((l.length : Nat) : Int)) ∨ ((l.drop i).all p = false ∧ ∃ q : Nat, r = .ret (q : Int)))
 | j, 0, i, _, h => by omega
 | 0, n + 1, i, hij, _ => by
  have : i = l.length := by omega
  subst this
  exact ⟨_, h2 n, .inl ⟨by simp, rfl⟩⟩
 | j + 1, n + 1, i, hij, hn => by
  have hi : i < l.length := by omega
  have hd : (l.drop i).all p = (p l[i] && (l.drop (i + 1)).all p) := by rw [List.drop_eq_getElem_cons hi, List.all_cons]
  rw [h1 n i l[i] (List.getElem?_eq_getElem hi), hd]
  by_cases hp : p l[i] = true
  ·rw [if_pos hp, hp, Bool.true_and]
   exact XkK l p Lf h1 h2 j n (i + 1) (by omega) (by omega)
  ·rw [if_neg hp]
   exact ⟨_, rfl, .inr ⟨by simp [hp], i, rfl⟩⟩
theorem f85 {k : Nat} (x : Sl Str) (hx : (Sl.l x).length < k) (hk2 : k < 400000000000000) : ∃ r, Xin k x = some r ∧ decide (r ≥ 0) = !Xby (Sl.l x) := by
 obtain ⟨r, hr, h⟩ := XkK (Sl.l x) (fun s => decide (s.length ≤ 400)) (Xcy k x (Sl.len x)) (by
  intro n i y hy
  have hi := XbP hy
  have hF : F66 k y = some (!decide (y.length ≤ 400)) := by
   unfold F66
   rw [Option.some.injEq, Bool.eq_iff_iff, decide_eq_true_eq, Bool.not_eq_true', decide_eq_false_iff_not]; simp only [Str.len]; omega
  rw [Xcy, if_pos (decide_eq_true (by simp only [Sl.len]; omega)), bnd (Xbj hy), bnd hF, XaK (by omega)]
  cases decide (y.length ≤ 400) <;> rfl) (by
  intro n; rw [Xcy, if_neg (by simp [Sl.len])]) (Sl.l x).length k 0 (by omega) hx
 rw [List.drop_zero] at h
 have hr : Xcy k x (Sl.len x) k 0 = some r := hr
 unfold Xin Xby
 rcases h with ⟨h1, h2⟩ | ⟨h1, q, h2⟩
 ·subst h2
  refine ⟨-1, by rw [bnd hr], ?_⟩
  rw [h1]; rfl
 ·subst h2
  refine ⟨(q : Int), by rw [bnd hr], ?_⟩
  rw [h1]
  exact decide_eq_true (by omega)
theorem XtX {k : Nat} (x : Sl Str) (hx : (Sl.l x).length < k) (hk2 : k < 400000000000000) : F31 k x = some (Xby (Sl.l x)) := by
 obtain ⟨r, hr, h⟩ := f85 x hx hk2
 have : Xio k x = some (!Xby (Sl.l x)) := by unfold Xio; rw [bnd hr, h]
 unfold F31
 rw [bnd this, Bool.not_not]
/-! What is a message -/
def XgE (top : Int) (m : Xat) : Bool := decide (1 ≤ m.Kind) && decide (m.Kind ≤ top) && decide (m.Attr.length ≤ 400) && decide ((Sl.l m.Values).length ≤ 12) && Xby (Sl.l m.Values)
def Xcf (l : List Xat) (top : Int) : Bool := l.all (XgE top) && decide (l.length ≤ 12)
theorem f33 {k : Nat} (hk : 200100 ≤ k) (hk2 : k < 400000000000000) (x : Sl Xat) (top : Int) (hl : (Sl.l x).length ≤ 6000) (hx : ∀ a ∈ Sl.l x, Xlp a) : F33 k x top = some (Xcf (Sl.l x) top) := by
 have hL := Xbe (Sl.l x) (fun _ m => XgE top m) (Xgc k x top (Sl.len x)) (by
  intro n i y hy
  have hi := XbP hy
  have hf := hx y (XaQ hy)
  have t1 : F31 k (some [y.Attr]) = some (decide (y.Attr.length ≤ 400)) := by
   rw [XtX _ (show 1 < k by omega) hk2]
   show some ([y.Attr].all fun s => decide (s.length ≤ 400)) = _
   simp
  have t2 : F31 k y.Values = some (Xby (Sl.l y.Values)) := XtX _ (by have := hf.2.1; omega) hk2
  have b1 : ((decide (y.Kind < 1)) || (decide (y.Kind > top))) = !(decide (1 ≤ y.Kind) && decide (y.Kind ≤ top)) := by
   rw [Bool.eq_iff_iff]
   simp only [Bool.or_eq_true, decide_eq_true_eq, Bool.not_eq_true', Bool.and_eq_false_iff, decide_eq_false_iff_not]
   omega
  have b2 : decide (Sl.len y.Values > 12) = !decide ((Sl.l y.Values).length ≤ 12) := by
   rw [Bool.eq_iff_iff, decide_eq_true_eq, Bool.not_eq_true', decide_eq_false_iff_not]; simp only [Sl.len]; omega
  rw [Xgc, if_pos (decide_eq_true (by simp only [Sl.len]; omega)), bnd (Xbj hy), b1, b2, t1, t2, XaK (by omega)]
  unfold XgE
  cases (decide (1 ≤ y.Kind) && decide (y.Kind ≤ top))
  ·rfl
  ·cases decide (y.Attr.length ≤ 400)
   ·rfl
   ·cases decide ((Sl.l y.Values).length ≤ 12)
    ·rfl
    ·cases Xby (Sl.l y.Values) <;> rfl) (by
  intro n; rw [Xgc, if_neg (by simp [Sl.len])]) (n := k) (by omega)
 unfold F33 Xcf
 rw [bnd hL, Xbw]
 have e : decide (Sl.len x ≤ 12) = decide ((Sl.l x).length ≤ 12) := by rw [decide_eq_decide]; simp only [Sl.len]; omega
 cases (Sl.l x).all (XgE top)
 ·rfl
 ·simp only [if_true, e, Bool.true_and]
def Xj0 (f : Fil) : Bool := decide (cS 22 f ≤ 20) && isS 22 f
theorem f32 {k : Nat} (hk : 200200 ≤ k) (hk2 : k < 400000000000000) {f : Fil} (hf : XcZ 22 f) : F32 k f = some (Xj0 f) := by
 unfold F32 Xj0
 rw [bnd (f67 22 k f hf (by omega)), f68 22 k f hf (by omega) hk2]
 cases decide (cS 22 f ≤ 20) <;> rfl
def opS (a : Ms) : Bool :=
 if a.Op = 1 then decide (1 ≤ a.Version) && decide (a.Version ≤ 127)
 else if a.Op = 3 then decide (0 ≤ a.Scope) && decide (a.Scope ≤ 2) && decide (0 ≤ a.Size) && decide (a.Size ≤ 2147483647) && Xj0 a.Filter && decide ((Sl.l a.Wants).length ≤ 12) && Xby (Sl.l a.Wants)
 else if a.Op = 4 then Xcf (Sl.l a.Mods) 3
 else if a.Op = 5 ∨ a.Op = 10 then Xcf (Sl.l a.Mods) 1
 else if a.Op = 9 then decide (1 ≤ a.Of) && decide (a.Of ≤ 8) && decide (a.Of ≠ 2) && decide (0 ≤ a.Code) && decide (a.Code ≤ 127)
 else decide (1 ≤ a.Op) && decide (a.Op ≤ 10)
def XgF (a : Ms) : List Str := [a.DN, a.Pass, a.RDN, a.Sup, a.Attr, a.Value, a.Matched]
def isM (a : Ms) : Bool := decide (0 ≤ a.ID) && decide (a.ID ≤ 2147483647) && XdX a (Xcz a) && Xby (XgF a) && opS a
theorem tag9 {k : Nat} (o : Int) : ∃ t, F18 k 9 o = some t ∧ (t != 0) = (decide (1 ≤ o) && decide (o ≤ 8) && decide (o ≠ 2)) := by
 by_cases h : o < 0 ∨ o > 8
 ·refine ⟨0, ?_, ?_⟩
  ·unfold F18
   rw [if_pos (by decide), if_pos (by rw [Bool.or_eq_true, decide_eq_true_eq, decide_eq_true_eq]; exact h)]
  ·symm
   show _ = false
   rw [Bool.and_eq_false_iff, Bool.and_eq_false_iff, decide_eq_false_iff_not, decide_eq_false_iff_not]
   left; omega
 ·have : o = 0 ∨ o = 1 ∨ o = 2 ∨ o = 3 ∨ o = 4 ∨ o = 5 ∨ o = 6 ∨ o = 7 ∨ o = 8 := by omega
  rcases this with rfl | rfl | rfl | rfl | rfl | rfl | rfl | rfl | rfl <;> exact ⟨_, rfl, rfl⟩
theorem f11w {k : Nat} (hk : 200200 ≤ k) (hk2 : k < 400000000000000) {a : Ms} (ha : Xlq a) : F11 k a = some (isM a) := by
 have hS : F13 k a (Xcz a) = some (XdX a (Xcz a)) := f13w hk hk2 ha (Xgx ha.filter)
 have hT : F31 k (some (XgF a)) = some (Xby (XgF a)) := XtX _ (show 7 < k by omega) hk2
 have hid : ((decide (a.ID < 0)) || (decide (a.ID > 2147483647))) = !(decide (0 ≤ a.ID) && decide (a.ID ≤ 2147483647)) := by
  rw [Bool.eq_iff_iff]
  simp only [Bool.or_eq_true, decide_eq_true_eq, Bool.not_eq_true', Bool.and_eq_false_iff, decide_eq_false_iff_not]
  omega
 have e0 : (some [a.DN, a.Pass, a.RDN, a.Sup, a.Attr, a.Value, a.Matched] : Sl Str) = some (XgF a) := rfl
 unfold F11 isM
 rw [hid, f30 a, e0, hT]
 cases (decide (0 ≤ a.ID) && decide (a.ID ≤ 2147483647))
 ·rfl
 ·rw [Bool.not_true, if_neg (by simp), bnd rfl, bnd rfl]
  rw [bnd hS]
  cases XdX a (Xcz a)
  ·rfl
  cases Xby (XgF a)
  ·rfl
  simp only [Bool.not_true, Bool.false_eq_true, if_false, Option.bind_some, Bool.true_and]
  unfold opS
  by_cases h1 : a.Op = 1
  ·simp only [h1, beq_self_eq_true, if_true]; try rfl
  by_cases h3 : a.Op = 3
  ·have e1 : (a.Op == 1) = false := by simpa using h1
   have eL : decide (Sl.len a.Wants ≤ 12) = decide ((Sl.l a.Wants).length ≤ 12) := by rw [decide_eq_decide]; simp only [Sl.len]; omega
   rw [f32 hk hk2 ha.filter, XtX a.Wants (by have := ha.wants; omega) hk2, eL]
   simp only [h3, e1, beq_self_eq_true, if_true, Bool.false_eq_true, if_false]
   try rw [if_neg (by decide)]
   try simp only [ge_iff_le]
   cases (((decide (0 ≤ a.Scope)) && (decide (a.Scope ≤ 2))) && (decide (0 ≤ a.Size))) && (decide (a.Size ≤ 2147483647))
   ·rfl
   ·cases Xj0 a.Filter
    ·rfl
    ·cases decide ((Sl.l a.Wants).length ≤ 12) <;> rfl
  have e1 : (a.Op == 1) = false := by simpa using h1
  have e3 : (a.Op == 3) = false := by simpa using h3
  by_cases h4 : a.Op = 4
  ·rw [f33 (by omega) hk2 _ _ ha.mods ha.mod]
   simp [h4]
  have e4 : (a.Op == 4) = false := by simpa using h4
  by_cases h5 : a.Op = 5 ∨ a.Op = 10
  ·have hF := f33 (k := k) (by omega) hk2 a.Mods 1 ha.mods ha.mod
   rcases h5 with h5 | h5 <;> simp [h5, e1, e3, e4, hF]
  have e5 : (a.Op == 5) = false := by simp; omega
  have e10 : (a.Op == 10) = false := by simp; omega
  simp only [e1, e3, e4, e5, e10, Bool.false_eq_true, if_false, Option.bind_some, h1, h3, h4, h5]
  by_cases h9 : a.Op = 9
  ·obtain ⟨t, ht, ht2⟩ := tag9 (k := k) a.Of
   simp only [h9, beq_self_eq_true, if_true]
   rw [bnd ht, ht2]
   try rfl
  ·have e9 : (a.Op == 9) = false := by simpa using h9
   simp only [e9, Bool.false_eq_true, if_false, h9]
   try rfl
theorem XkL : ∀ (l m : List Str), Xi8 (fun x y => x == y) l m = (l == m)
 | [], [] => rfl
 | x :: xs, y :: ys => by
  show ((x == y) && Xi8 _ xs ys) = _
  rw [XkL xs ys]; rfl
 | [], _ :: _ => rfl
 | _ :: _, [] => rfl
theorem f43 (k : Nat) (x y : Sl Str) (hl : (Sl.l x).length ≤ 200000) (hk : 200100 ≤ k) : F43 k x y = some (Sl.l x == Sl.l y) := by
 unfold F43
 rw [XkJ, ← XkL]
 by_cases h : (Sl.l x).length = (Sl.l y).length
 ·rw [decide_eq_true h]
  have hL := Xh1 (Sl.l x) (Sl.l y) h (fun a b => a == b) (Xgf k x y) (by
   intro n i a b h1 h2
   have hi := XbP h1
   rw [Xgf, if_pos (decide_eq_true (by simp only [Sl.len]; omega)), bnd (Xbj h1), bnd (Xbj h2), XaK (by omega)]
   cases (a == b) <;> rfl) (by
   intro n; rw [Xgf, if_neg (by simp [Sl.len])]) (n := k) (by omega)
  rw [if_neg (by simp), bnd hL]
  exact XdG
 ·rw [decide_eq_false h, if_pos (show (!false) = true from rfl), XiW h]
theorem f44 {k : Nat} (hk : 200100 ≤ k) (x y : Sl Xat) (hl : (Sl.l x).length ≤ 200000) (hx : ∀ a ∈ Sl.l x, Xlp a) : F44 k x y = some (Xgw x y) := by
 unfold F44 Xgw
 rw [XkJ]
 by_cases h : (Sl.l x).length = (Sl.l y).length
 ·rw [decide_eq_true h]
  have hL := Xh1 (Sl.l x) (Sl.l y) h Xh2 (Xgg k x y) (by
   intro n i a b h1 h2
   have hi := XbP h1
   have ha := Xbj h1
   have hb := Xbj h2
   have hv := f43 k a.Values b.Values (by have := (hx a (XaQ h1)).2.1; omega) hk
   rw [Xgg, if_pos (decide_eq_true (by simp only [Sl.len]; omega)), bnd ha, bnd hb, ha, hb, XaK (by omega)]
   unfold Xh2
   simp only [Option.bind_some, hv, bne]
   cases (a.Kind == b.Kind) <;> cases (a.Attr == b.Attr) <;> cases (Sl.l a.Values == Sl.l b.Values) <;> rfl) (by
   intro n; rw [Xgg, if_neg (by simp [Sl.len])]) (n := k) (by omega)
  rw [if_neg (by simp), bnd hL]
  exact XdG
 ·rw [decide_eq_false h, if_pos (show (!false) = true from rfl), XiW h]
theorem f14w {k : Nat} (hk : 200200 ≤ k) (hk2 : k < 400000000000000) {a b : Ms} (ha : Xlq a) (hb : XcZ 22 b.Filter) : F14 k a b = some (XdX a b) := by
 unfold F14
 rw [f42 22 k _ _ ha.filter hb (by omega) hk2, f43 k _ _ (by have := ha.wants; omega) (by omega), f44 (by omega) _ _ (by have := ha.mods; omega) ha.mod]
 unfold XdX sc1 sc2
 generalize (a.ID == b.ID) = q1
 generalize (a.Op == b.Op) = q2
 generalize (a.Of == b.Of) = q3
 generalize (a.DN == b.DN) = q4
 generalize (a.Version == b.Version) = q5
 generalize (a.Pass == b.Pass) = q6
 generalize (a.Scope == b.Scope) = q7
 generalize (a.Size == b.Size) = q8
 generalize Xcn 22 a.Filter b.Filter = q9
 generalize (Sl.l a.Wants == Sl.l b.Wants) = q10
 generalize Xgw a.Mods b.Mods = q11
 generalize (a.RDN == b.RDN) = q12
 generalize (a.DelOld == b.DelOld) = q13
 generalize (a.HasSup == b.HasSup) = q14
 generalize (a.Sup == b.Sup) = q15
 generalize (a.Attr == b.Attr) = q16
 generalize (a.Value == b.Value) = q17
 generalize (a.Code == b.Code) = q18
 generalize (a.Matched == b.Matched) = q19
 cases q1 <;> cases q2 <;> cases q3 <;> (try simp) <;> cases q4 <;> cases q5 <;> cases q6 <;> (try simp) <;> cases q7 <;> cases q8 <;> cases q9 <;> (try simp) <;> cases q10 <;> cases q11 <;> (try simp) <;> cases q12 <;> cases q13 <;> cases q14 <;> (try simp) <;> cases q15 <;> cases q16 <;> cases q17 <;> cases q18 <;> simp
theorem f34c {k : Nat} (a : Ms) : F34 k a = some (Xcz a) := by
 unfold F34 Xcz
 by_cases h1 : a.Op = 1
 ·simp [h1, noF]
 by_cases h3 : a.Op = 3
 ·simp [h3, noF]
 by_cases h4 : a.Op = 4
 ·simp [h4, noF]
 by_cases h5 : a.Op = 5
 ·simp [h5, noF]
 by_cases h10 : a.Op = 10
 ·simp [h10, noF]
 by_cases h6 : a.Op = 6
 ·simp [h6, noF]
 by_cases h7 : a.Op = 7
 ·cases hs : a.HasSup <;> simp [h7, noF, hs]
 by_cases h8 : a.Op = 8
 ·simp [h8, noF]
 by_cases h9 : a.Op = 9
 ·simp [h9, noF]
 simp [h1, h3, h4, h5, h6, h7, h8, h9, h10, noF]
theorem f35 {k : Nat} (x : Sl Str) (hx : (Sl.l x).length < k) (hl : (Sl.l x).length ≤ 200000) : F35 k x = some (Xby (Sl.l x) && decide ((Sl.l x).length ≤ 12)) := by
 have hL := Xbe (Sl.l x) (fun _ s => decide (s.length ≤ 400)) (Xgh k x) (by
  intro n i y hy
  have hi := XbP hy
  have e : decide (Str.len y > 400) = !decide (y.length ≤ 400) := by
   rw [Bool.eq_iff_iff, decide_eq_true_eq, Bool.not_eq_true', decide_eq_false_iff_not]; simp only [Str.len]; omega
  rw [Xgh, if_pos (decide_eq_true (by simp only [Sl.len]; omega)), bnd (Xbj hy), e, XaK (by omega)]
  cases decide (y.length ≤ 400) <;> rfl) (by
  intro n; rw [Xgh, if_neg (by simp [Sl.len])]) (n := k) hx
 rw [Xbw] at hL
 have e : decide (Sl.len x ≤ 12) = decide ((Sl.l x).length ≤ 12) := by rw [decide_eq_decide]; simp only [Sl.len]; omega
 unfold F35 Xby
 rw [bnd hL]
 cases (Sl.l x).all (fun s => decide (s.length ≤ 400))
 ·rfl
 ·simp only [if_true, e, Bool.true_and]
theorem f36 {k : Nat} (hk : 200100 ≤ k) (x : Sl Xat) (b : Bool) (hl : (Sl.l x).length ≤ 6000) (hx : ∀ a ∈ Sl.l x, Xlp a) : F36 k x b = some (Xcf (Sl.l x) (if b = true then 3 else 1)) := by
 have hL := Xbe (Sl.l x) (fun _ m => XgE (if b = true then 3 else 1) m) (Xgi k x b) (by
  intro n i y hy
  have hi := XbP hy
  have hf := hx y (XaQ hy)
  have ha := Xbj hy
  have e : decide (Str.len y.Attr > 400) = !decide (y.Attr.length ≤ 400) := by
   rw [Bool.eq_iff_iff, decide_eq_true_eq, Bool.not_eq_true', decide_eq_false_iff_not]; simp only [Str.len]; omega
  have t2 := f35 (k := k) y.Values (by have := hf.2.1; omega) (by have := hf.2.1; omega)
  rw [Xgi, if_pos (decide_eq_true (by simp only [Sl.len]; omega)), bnd ha, ha, XaK (by omega)]
  simp only [Option.bind_some, e, t2]
  unfold XgE
  have b1 : decide (y.Kind < 1) = !decide (1 ≤ y.Kind) := by rw [Bool.eq_iff_iff, decide_eq_true_eq, Bool.not_eq_true', decide_eq_false_iff_not]; omega
  have b3 : decide (y.Kind > 3) = !decide (y.Kind ≤ 3) := by rw [Bool.eq_iff_iff, decide_eq_true_eq, Bool.not_eq_true', decide_eq_false_iff_not]; omega
  rw [b1, b3]
  cases b with
  | true =>
   simp only [Bool.not_true, Bool.false_eq_true, if_false, Option.bind_some, if_true]
   cases decide (1 ≤ y.Kind) <;> cases decide (y.Kind ≤ 3) <;> cases decide (y.Attr.length ≤ 400) <;> cases decide ((Sl.l y.Values).length ≤ 12) <;> cases Xby (Sl.l y.Values) <;> rfl
  | false =>
   by_cases h1 : 1 ≤ y.Kind
   ·by_cases h2 : y.Kind ≤ 1
    ·have hk1 : y.Kind = 1 := by omega
     simp only [hk1]
     cases decide (y.Attr.length ≤ 400) <;> cases decide ((Sl.l y.Values).length ≤ 12) <;> cases Xby (Sl.l y.Values) <;> rfl
    ·have e1 : (y.Kind != 1) = true := by simp; omega
     rw [decide_eq_true h1, e1]
     simp only [Bool.false_eq_true, if_false, decide_eq_false h2, Bool.and_false, Bool.false_and, Bool.not_false, if_true, Bool.not_true, Option.bind_some]
     cases decide (y.Kind ≤ 3) <;> rfl
   ·rw [decide_eq_false h1]; rfl) (by
  intro n; rw [Xgi, if_neg (by simp [Sl.len])]) (n := k) (by omega)
 unfold F36 Xcf
 rw [bnd hL, Xbw]
 have e : decide (Sl.len x ≤ 12) = decide ((Sl.l x).length ≤ 12) := by rw [decide_eq_decide]; simp only [Sl.len]; omega
 cases (Sl.l x).all (XgE (if b = true then 3 else 1))
 ·rfl
 ·simp only [if_true, e, Bool.true_and]
theorem f37 {k : Nat} (hk : 200200 ≤ k) (hk2 : k < 400000000000000) {f : Fil} (hf : XcZ 22 f) : F37 k f = some (Xj0 f) := by
 unfold F37 Xj0
 rw [bnd (f69 22 k f hf (by omega)), f70 22 k f hf (by omega) hk2]
 cases decide (cS 22 f ≤ 20) <;> rfl
abbrev El := Xab
def XhF (n : Nat) : Str := if n < 128 then [UInt8.ofNat n] else if n < 256 then [129, UInt8.ofNat n] else [130, UInt8.ofNat (n / 256), UInt8.ofNat n]
theorem XkM (k : Nat) : (List.range 4001).all (fun n => (F52 k n == some (XhF n)) && (F64 (k + 9) n == some (XhF n))) = true := by kernel_rfl
theorem XkN (k n : Nat) (hk : 9 ≤ k) (hn : n ≤ 4000) : F52 k n = some (XhF n) ∧ F64 k n = some (XhF n) := by
 have h1 := List.all_eq_true.1 (XkM k) n (by simp; omega)
 have h2 := List.all_eq_true.1 (XkM (k - 9)) n (by simp; omega)
 rw [show k - 9 + 9 = k by omega] at h2
 simp only [Bool.and_eq_true, beq_iff_eq] at h1 h2
 exact ⟨h1.1, h2.2⟩
def Xkn : Nat → El → Prop
 | 0, _ => False
 | n + 1, e => (Sl.l e.Kids).length ≤ 30 ∧ e.Body.length ≤ 5000 ∧ ∀ x ∈ Sl.l e.Kids, Xkn n x
theorem Xe8 {α : Type} {l : List α} {i : Nat} (h : i < l.length) : l.drop i = l[i] :: l.drop (i + 1) := List.drop_eq_getElem_cons h
def Fm : Nat → El → Prop
 | 0, _ => False
 | n + 1, e => Xej .u8 e.Tag 31 ≠ 31 ∧ (Xej .u8 e.Tag 32 = 0 → Sl.l e.Kids = []) ∧ (Xej .u8 e.Tag 32 ≠ 0 → e.Body = [] ∧ ∀ x ∈ Sl.l e.Kids, Fm n x)
theorem XiX (m k : Nat) (K : Sl El) (ih : ∀ x ∈ Sl.l K, ∃ b, F53 k x = some b ∧ (b = true ↔ Fm m x)) (hl : (Sl.l K).length ≤ 30) : ∀ (j fuel i : Nat), i + j = (Sl.l K).length → j < fuel →
  (∃ q : Int, Xce (F53 k) k K (Sl.len K) fuel i = some (.brk q) ∧ ∀ x ∈ (Sl.l K).drop i, Fm m x) ∨
  (∃ q : Int, 0 ≤ q ∧ Xce (F53 k) k K (Sl.len K) fuel i = some (.ret q) ∧ ¬ ∀ x ∈ (Sl.l K).drop i, Fm m x) := by
 intro j
 induction j with
 | zero =>
  intro fuel i h1 h2
  obtain ⟨f, rfl⟩ : ∃ f, fuel = f + 1 := ⟨fuel - 1, by omega⟩
  refine .inl ⟨i, by rw [Xce, if_neg (by simp [Sl.len_nat]; omega)], ?_⟩
  rw [List.drop_eq_nil_of_le (by omega)]; simp
 | succ j ihj =>
  intro fuel i h1 h2
  obtain ⟨f, rfl⟩ : ∃ f, fuel = f + 1 := ⟨fuel - 1, by omega⟩
  have hlt : i < (Sl.l K).length := by omega
  have e1 : Sl.at? K (i : Int) = some (Sl.l K)[i] := by rw [Sl.at?_nat, List.getElem?_eq_getElem hlt]
  obtain ⟨b, hb, hf⟩ := ih _ (List.getElem_mem hlt)
  have e2 : F82 k (F53 k) (Sl.l K)[i] = some (!b) := by unfold F82; rw [bnd hb]
  rw [Xce, if_pos (by simp [Sl.len_nat]; omega), bnd e1, bnd e2, Xe8 hlt]
  cases b with
  | false =>
   refine .inr ⟨i, by omega, by rw [XoT], fun h => ?_⟩
   have := hf.2 (h _ List.mem_cons_self)
   cases this
  | true =>
   rw [XoS, XaK (by omega)]
   rcases ihj f (i + 1) (by omega) (by omega) with ⟨q, h3, h4⟩ | ⟨q, h0, h3, h4⟩
   ·refine .inl ⟨q, h3, fun x hx => ?_⟩
    rcases List.mem_cons.1 hx with rfl | hx
    ·exact hf.1 rfl
    ·exact h4 x hx
   ·exact .inr ⟨q, h0, h3, fun h => h4 fun x hx => h x (List.mem_cons_of_mem _ hx)⟩
theorem Xis : ∀ (m k : Nat), m + 50 ≤ k → ∀ e : El, Xkn m e → ∃ b, F53 k e = some b ∧ (b = true ↔ Fm m e)
 | 0, k, hk, e, h => h.elim
 | m + 1, k, hk, e, h => by
  obtain ⟨k, rfl⟩ : ∃ j, k = j + 1 := ⟨k - 1, by omega⟩
  have ih := fun x hx => Xis m k (by omega) x (h.2.2 x hx)
  have A := XiX m k e.Kids ih h.1 (Sl.l e.Kids).length k 0 (by omega) (by have := h.1; omega)
  rw [show ((0 : Nat) : Int) = 0 from rfl, List.drop_zero] at A
  rw [F53]
  by_cases t1 : Xej .u8 e.Tag 31 = 31
  ·exact ⟨false, by rw [if_pos (by simpa using t1)], by simp [Fm, t1]⟩
  ·by_cases t2 : Xej .u8 e.Tag 32 = 0
   ·rw [if_neg (by simpa using t1), if_pos (by simpa using t2)]
    by_cases hk0 : Sl.l e.Kids = []
    ·exact ⟨true, by simp [Sl.len_nat, hk0], by simp [Fm, t1, t2, hk0]⟩
    ·exact ⟨false, by simp [Sl.len_nat, hk0], by simp [Fm, t1, t2, hk0]⟩
   ·rw [if_neg (by simpa using t1), if_neg (by simpa using t2)]
    by_cases hb : e.Body = []
    ·have hb' : (e.Body == []) = true := by simp [hb]
     rw [XaN hb']
     rcases A with ⟨q, h3, h4⟩ | ⟨q, h0, h3, h4⟩
     ·have g1 : Xel k (F53 k) e.Kids = some (-1) := by unfold Xel; rw [bnd h3]
      have g2 : Xe7 k (F53 k) e.Kids = some false := by unfold Xe7; rw [bnd g1]; rfl
      have g3 : (Xe7 k (F53 k) e.Kids).bind (fun y17 => some (!y17)) = some true := by rw [bnd g2]; rfl
      exact ⟨true, by rw [bnd g3], by simp [Fm, t1, t2, hb]; exact h4⟩
     ·have g1 : Xel k (F53 k) e.Kids = some q := by unfold Xel; rw [bnd h3]
      have g2 : Xe7 k (F53 k) e.Kids = some true := by unfold Xe7; rw [bnd g1]; simp [h0]
      have g3 : (Xe7 k (F53 k) e.Kids).bind (fun y17 => some (!y17)) = some false := by rw [bnd g2]; rfl
      exact ⟨false, by rw [bnd g3], ⟨fun h => (by cases h), fun h => absurd (h.2.2 t2).2 h4⟩⟩
    ·have hb' : (e.Body == []) = false := by simp [hb]
     rw [XaC (by simp [hb])]
     exact ⟨false, by rw [bnd rfl], by simp [Fm, t1, t2, hb]⟩
def Dpt : Nat → El → Prop
 | 0, _ => False
 | n + 1, e => ∀ x ∈ Sl.l e.Kids, Dpt n x
theorem Xj1 (a b : Nat) : Xtw (a : Int) (b : Int) = ((max a b : Nat) : Int) := by unfold Xtw; split <;> omega
theorem XkO (k : Nat) (e : El) (ih : ∀ x ∈ Sl.l e.Kids, ∃ d : Nat, F54 k x = some (d : Int) ∧ F29 k x = some (d : Int) ∧ d ≤ 30 ∧ ∀ n, Dpt n x ↔ d ≤ n) (hl : (Sl.l e.Kids).length ≤ 30) : ∀ (j fuel i x : Nat), i + j = (Sl.l e.Kids).length → j < fuel → x ≤ 30 →
  ∃ q : Nat, Xgo (F54 k) k e.Kids (Sl.len e.Kids) fuel x i = some ((q : Int), ((Sl.l e.Kids).length : Int)) ∧ Xgu (F29 k) k e fuel x i = some ((q : Int), ((Sl.l e.Kids).length : Int)) ∧ q ≤ 30 ∧
   ∀ n, (x ≤ n ∧ ∀ y ∈ (Sl.l e.Kids).drop i, Dpt n y) ↔ q ≤ n := by
 intro j
 induction j with
 | zero =>
  intro fuel i x h1 h2 h3
  obtain ⟨f, rfl⟩ : ∃ f, fuel = f + 1 := ⟨fuel - 1, by omega⟩
  obtain rfl : i = (Sl.l e.Kids).length := by omega
  refine ⟨x, by rw [Xgo, if_neg (by simp [Sl.len_nat])], by rw [Xgu, if_neg (by simp [Sl.len_nat])], h3, fun n => ?_⟩
  rw [List.drop_eq_nil_of_le (by omega)]; simp
 | succ j ihj =>
  intro fuel i x h1 h2 h3
  obtain ⟨f, rfl⟩ : ∃ f, fuel = f + 1 := ⟨fuel - 1, by omega⟩
  have hlt : i < (Sl.l e.Kids).length := by omega
  have e1 : Sl.at? e.Kids (i : Int) = some (Sl.l e.Kids)[i] := by rw [Sl.at?_nat, List.getElem?_eq_getElem hlt]
  obtain ⟨d, d1, d2, d3, d4⟩ := ih _ (List.getElem_mem hlt)
  obtain ⟨q, q1, q2, q3, q4⟩ := ihj f (i + 1) (max x d) (by omega) (by omega) (by omega)
  refine ⟨q, ?_, ?_, q3, fun n => ?_⟩
  ·rw [Xgo, if_pos (by simp [Sl.len_nat]; omega), bnd e1, bnd d1, Xj1, XaK (by omega)]; exact q1
  ·rw [Xgu, if_pos (by simp [Sl.len_nat]; omega), bnd e1, bnd d2, Xj1, XaK (by omega)]; exact q2
  ·rw [← q4 n, Xe8 hlt]
   constructor
   ·rintro ⟨g1, g2⟩
    exact ⟨by have := (d4 n).1 (g2 _ List.mem_cons_self); omega, fun y hy => g2 y (List.mem_cons_of_mem _ hy)⟩
   ·rintro ⟨g1, g2⟩
    refine ⟨by omega, fun y hy => ?_⟩
    rcases List.mem_cons.1 hy with rfl | hy
    ·exact (d4 n).2 (by omega)
    ·exact g2 y hy
theorem XkP : ∀ (m k : Nat), m + 50 ≤ k → m ≤ 28 → ∀ e : El, Xkn m e → ∃ d : Nat, F54 k e = some (d : Int) ∧ F29 k e = some (d : Int) ∧ d ≤ m ∧ 1 ≤ d ∧ ∀ n, Dpt n e ↔ d ≤ n
 | 0, k, hk, hm, e, h => h.elim
 | m + 1, k, hk, hm, e, h => by
  obtain ⟨k, rfl⟩ : ∃ j, k = j + 1 := ⟨k - 1, by omega⟩
  have ih := fun x hx => XkP m k (by omega) (by omega) x (h.2.2 x hx)
  obtain ⟨q, q1, q2, q3, q4⟩ := XkO k e (fun x hx => (ih x hx).elim fun d hd => ⟨d, hd.1, hd.2.1, by omega, hd.2.2.2.2⟩) h.1 (Sl.l e.Kids).length k 0 0 (by omega) (by have := h.1; omega) (by omega)
  rw [show ((0 : Nat) : Int) = 0 from rfl] at q1 q2
  rw [List.drop_zero] at q4
  have hq : q ≤ m := (q4 m).1 ⟨by omega, fun y hy => (ih y hy).elim fun d hd => (hd.2.2.2.2 m).2 hd.2.2.1⟩
  refine ⟨q + 1, ?_, ?_, by omega, by omega, fun n => ?_⟩
  ·rw [F54, bnd q1, XaK (by omega)]
  ·rw [F29, bnd q2, XaK (by omega)]
  ·cases n with
   | zero => simp [Dpt]
   | succ n =>
    have := q4 n
    simp only [Nat.zero_le, true_and] at this
    rw [show Dpt (n + 1) e = ∀ x ∈ Sl.l e.Kids, Dpt n x from rfl, this]
    omega
theorem Xdu (n : Nat) : (XhF n).length ≤ 3 ∧ 1 ≤ (XhF n).length := by
 unfold XhF
 split
 ·simp
 ·split <;> simp
def cat (f : El → Option Str) : Str → List El → Option Str
 | acc, [] => some acc
 | acc, x :: l => match f x with
  | some b => cat f (acc ++ b) l
  | none => none
def XaY : Nat → El → Option Str
 | 0, _ => none
 | m + 1, e => match cat (XaY m) e.Body (Sl.l e.Kids) with
  | some b => if b.length ≤ 4000 then some (UInt8.ofNat e.Tag.toNat :: (XhF b.length ++ b)) else none
  | none => none
theorem XkQ {f : El → Option Str} : ∀ (l : List El) (acc b : Str), cat f acc l = some b → acc.length ≤ b.length
 | [], acc, b, h => by injection h with h; rw [h]; exact Nat.le_refl _
 | x :: l, acc, b, h => by
  simp only [cat] at h
  split at h
  ·have := XkQ l _ _ h; simp at this; omega
  ·cases h
theorem XdS {m : Nat} {e : El} {b : Str} (h : XaY m e = some b) : b.length ≤ 4004 ∧ 2 ≤ b.length := by
 cases m with
 | zero => cases h
 | succ m =>
  simp only [XaY] at h
  split at h
  ·split at h
   ·rename_i b' _ hl
    injection h with h; subst h
    have := Xdu b'.length
    simp; omega
   ·cases h
  ·cases h
def Xi9 (r : Option Str) : Str × Bool := (r.getD [], r.isSome)
theorem XiY (m k : Nat) (e w : El) (ih : ∀ x ∈ Sl.l e.Kids, F55 k x = some (Xi9 (XaY m x)) ∧ F28 k x = some (Xi9 (XaY m x))) (hl : (Sl.l e.Kids).length ≤ 30) : ∀ (j fuel i : Nat) (acc : Str), i + j = (Sl.l e.Kids).length → j < fuel → acc.length + 4004 * j ≤ 200000 →
  ((∃ b, cat (XaY m) acc ((Sl.l e.Kids).drop i) = some b ∧ XdE (F28 k) k e fuel acc i = some (.brk (b, ((Sl.l e.Kids).length : Int)))) ∨ (cat (XaY m) acc ((Sl.l e.Kids).drop i) = none ∧ XdE (F28 k) k e fuel acc i = some (.ret ([], false)))) ∧
  ((∃ b, cat (XaY m) acc ((Sl.l e.Kids).drop i) = some b ∧ ∃ q : Int, Xdy (F55 k) k e.Kids (Sl.len e.Kids) w fuel (Str.bytes acc) i = some (.brk (Str.bytes b, q))) ∨ ((∀ b, cat (XaY m) acc ((Sl.l e.Kids).drop i) = some b → 4000 < b.length) ∧ Xdy (F55 k) k e.Kids (Sl.len e.Kids) w fuel (Str.bytes acc) i = some (.ret ([], false)))) := by
 intro j
 induction j with
 | zero =>
  intro fuel i acc h1 h2 h3
  obtain ⟨f, rfl⟩ : ∃ f, fuel = f + 1 := ⟨fuel - 1, by omega⟩
  obtain rfl : i = (Sl.l e.Kids).length := by omega
  rw [List.drop_eq_nil_of_le (Nat.le_refl _)]
  exact ⟨.inl ⟨acc, rfl, by rw [XdE, if_neg (by simp [Sl.len_nat])]⟩, .inl ⟨acc, rfl, _, by rw [Xdy, if_neg (by simp [Sl.len_nat])]⟩⟩
 | succ j ihj =>
  intro fuel i acc h1 h2 h3
  obtain ⟨f, rfl⟩ : ∃ f, fuel = f + 1 := ⟨fuel - 1, by omega⟩
  have hlt : i < (Sl.l e.Kids).length := by omega
  have e1 : Sl.at? e.Kids (i : Int) = some (Sl.l e.Kids)[i] := by rw [Sl.at?_nat, List.getElem?_eq_getElem hlt]
  obtain ⟨d1, d2⟩ := ih _ (List.getElem_mem hlt)
  rw [Xe8 hlt]
  cases hb : XaY m (Sl.l e.Kids)[i] with
  | none =>
   rw [hb] at d1 d2
   simp only [cat, hb]
   refine ⟨.inr ⟨by first | rfl | trivial, ?_⟩, .inr ⟨by simp, ?_⟩⟩
   ·rw [XdE, if_pos (by simp [Sl.len_nat]; omega), bnd e1, bnd d2, if_pos (by rfl)]
   ·rw [Xdy, if_pos (by simp [Sl.len_nat]; omega), bnd e1, bnd d1, if_pos (by simp [Xi9])]
  | some b =>
   rw [hb] at d1 d2
   have hbl := (XdS hb).1
   simp only [cat, hb]
   have a1 : Str.app? acc b = some (acc ++ b) := Str.app?_ok (by omega)
   obtain ⟨A, B⟩ := ihj f (i + 1) (acc ++ b) (by omega) (by omega) (by simp; omega)
   constructor
   ·have g : XdE (F28 k) k e (f + 1) acc i = XdE (F28 k) k e f (acc ++ b) ((i + 1 : Nat) : Int) := by
     rw [XdE, if_pos (by simp [Sl.len_nat]; omega), bnd e1, bnd d2, if_neg (by simp [Xi9]), show (Xi9 (some b)).1 = b from rfl, bnd a1, XaK (by omega)]
    rw [g]; exact A
   ·have hlen : Sl.len (Str.bytes acc) = (acc.length : Int) := by simp [Sl.len, Str.bytes, Sl.l]
    have hadd : ad .i64 (Sl.len (Str.bytes acc)) (Str.len (Xi9 (some b)).1) = (acc.length : Int) + b.length := by
     rw [hlen, show (Xi9 (some b)).1 = b from rfl, Str.len_nat]
     exact XeC (by omega)
    by_cases hbig : 4000 < acc.length + b.length
    ·refine .inr ⟨fun b' h' => by have := XkQ _ _ _ h'; simp at this; omega, ?_⟩
     rw [Xdy, if_pos (by simp [Sl.len_nat]; omega), bnd e1, bnd d1, if_pos]
     rw [hadd]
     simp [Xi9]; omega
    ·have a2 : Sl.app? 1 (Str.bytes acc) (Sl.l (Str.bytes b)) = some (Str.bytes (acc ++ b)) := by
      have hb2 := (XdS hb).2
      rw [Sl.app?_ok]
      ·simp [Str.bytes, Sl.l]
      ·rw [Str.bytes_l]; intro h; have h' := congrArg List.length h; rw [List.length_map] at h'; simp only [List.length_nil] at h'; omega
      ·simp [Str.bytes, Sl.l]; omega
     have g : Xdy (F55 k) k e.Kids (Sl.len e.Kids) w (f + 1) (Str.bytes acc) i = Xdy (F55 k) k e.Kids (Sl.len e.Kids) w f (Str.bytes (acc ++ b)) ((i + 1 : Nat) : Int) := by
      rw [Xdy, if_pos (by simp [Sl.len_nat]; omega), bnd e1, bnd d1, if_neg, show (Xi9 (some b)).1 = b from rfl, bnd a2]
      ·rw [XaK (by omega)]
      rw [hadd]
      simp [Xi9]; omega
     rw [g]; exact B
theorem Xms (t : Int) : Str.of (some [t]) = [UInt8.ofNat t.toNat] := rfl
theorem XlP (s : Str) : Str.of (Str.bytes s) = s := Str.of_bytes_map s
theorem Xj2 : ∀ (m k : Nat), m + 50 ≤ k → ∀ e : El, Xkn m e → F55 k e = some (Xi9 (XaY m e)) ∧ F28 k e = some (Xi9 (XaY m e))
 | 0, k, hk, e, h => h.elim
 | m + 1, k, hk, e, h => by
  obtain ⟨k, rfl⟩ : ∃ j, k = j + 1 := ⟨k - 1, by omega⟩
  have ih := fun x hx => Xj2 m k (by omega) x (h.2.2 x hx)
  obtain ⟨A, B⟩ := XiY m k e e ih h.1 (Sl.l e.Kids).length k 0 e.Body (by omega) (by have := h.1; omega) (by have := h.1; have := h.2.1; omega)
  rw [show ((0 : Nat) : Int) = 0 from rfl, List.drop_zero] at A B
  constructor
  ·rw [F55]
   rcases B with ⟨b, hc, q, h3⟩ | ⟨hc, h3⟩
   ·rw [bnd h3]
    have hlen : Sl.len (Str.bytes b) = (b.length : Int) := by simp [Sl.len, Str.bytes, Sl.l]
    simp only [XaY, hc]
    by_cases hb : b.length ≤ 4000
    ·have hL := Xdu b.length
     rw [if_neg (by rw [hlen]; simp; omega), if_pos hb, hlen, bnd (XkN k b.length (by omega) hb).1, Xms, bnd (Str.app?_ok (by simp; omega)), XlP, bnd (Str.app?_ok (by simp; omega))]
     simp [Xi9]
    ·rw [if_pos (by rw [hlen]; simp; omega), if_neg hb]; rfl
   ·rw [bnd h3]
    have : XaY (m + 1) e = none := by
     simp only [XaY]
     split
     ·rename_i b hb; have := hc b hb; rw [if_neg (by omega)]
     ·rfl
    rw [this]; rfl
  ·rw [F28]
   rcases A with ⟨b, hc, h3⟩ | ⟨hc, h3⟩
   ·rw [bnd h3]
    simp only [XaY, hc]
    by_cases hb : b.length ≤ 4000
    ·have hL := Xdu b.length
     rw [if_neg (by rw [Str.len_nat]; simp; omega), if_pos hb, Str.len_nat, bnd (XkN k b.length (by omega) hb).2, Xms, bnd (Str.app?_ok (by simp; omega)), bnd (Str.app?_ok (by simp; omega))]
     simp [Xi9]
    ·rw [if_pos (by rw [Str.len_nat]; simp; omega), if_neg hb]; rfl
   ·rw [bnd h3]
    have : XaY (m + 1) e = none := by simp only [XaY, hc]
    rw [this]; rfl
def szS : Nat → El → Nat
 | 0, _ => 0
 | m + 1, e => let t := e.Body.length + ((Sl.l e.Kids).map (szS m)).sum; 1 + (XhF (min t 4001)).length + t
theorem Xgy (m : Nat) (e : El) : szS (m + 1) e = 1 + (XhF (min (e.Body.length + ((Sl.l e.Kids).map (szS m)).sum) 4001)).length + (e.Body.length + ((Sl.l e.Kids).map (szS m)).sum) := rfl
theorem Xwj (k : Nat) (n : Nat) (hn : n ≤ 4001) : F52 k n = some (XhF n) := by
 by_cases h : n ≤ 4000
 ·exact (show F52 k n = F52 (k + 9) n from rfl).trans (XkN (k + 9) n (by omega) h).1
 ·obtain rfl : n = 4001 := by omega
  rfl
theorem Xon (m k : Nat) (e : El) (ih : ∀ x ∈ Sl.l e.Kids, F23 k x = some ((szS m x : Nat) : Int)) (hl : (Sl.l e.Kids).length ≤ 30) : ∀ (j fuel i acc : Nat), i + j = (Sl.l e.Kids).length → j < fuel →
  acc + (((Sl.l e.Kids).drop i).map (szS m)).sum < 4611686018427387904 →
  ∃ q : Int, Xfk (F23 k) k e.Kids (Sl.len e.Kids) fuel (acc : Int) (i : Int) = some (((acc + (((Sl.l e.Kids).drop i).map (szS m)).sum : Nat) : Int), q) := by
 intro j
 induction j with
 | zero =>
  intro fuel i acc h1 h2 h3
  obtain ⟨f, rfl⟩ : ∃ f, fuel = f + 1 := ⟨fuel - 1, by omega⟩
  rw [List.drop_eq_nil_of_le (by omega), Xfk, if_neg (by simp [Sl.len_nat]; omega)]
  exact ⟨_, by simp; rfl⟩
 | succ j ihj =>
  intro fuel i acc h1 h2 h3
  obtain ⟨f, rfl⟩ : ∃ f, fuel = f + 1 := ⟨fuel - 1, by omega⟩
  have hlt : i < (Sl.l e.Kids).length := by omega
  have e1 : Sl.at? e.Kids (i : Int) = some (Sl.l e.Kids)[i] := by rw [Sl.at?_nat, List.getElem?_eq_getElem hlt]
  rw [Xe8 hlt, List.map_cons, List.sum_cons] at h3 ⊢
  have e2 : ad .i64 (acc : Int) ((szS m (Sl.l e.Kids)[i] : Nat) : Int) = ((acc + szS m (Sl.l e.Kids)[i] : Nat) : Int) := by rw [XeC (by omega)]; omega
  obtain ⟨q, hq⟩ := ihj f (i + 1) (acc + szS m (Sl.l e.Kids)[i]) (by omega) (by omega) (by omega)
  refine ⟨q, ?_⟩
  rw [Xfk, if_pos (by simp [Sl.len_nat]; omega), bnd e1, bnd (ih _ (List.getElem_mem hlt)), e2, XaK (by omega), hq]
  rw [Nat.add_assoc]
theorem Xe9 {α : Type} (f : α → Nat) : ∀ {l : List α} {x : α}, x ∈ l → f x ≤ (l.map f).sum
 | y :: l, x, h => by
  rw [List.map_cons, List.sum_cons]
  rcases List.mem_cons.1 h with rfl | h
  ·omega
  ·have := Xe9 f h; omega
theorem XsX : ∀ (m k : Nat), m + 50 ≤ k → ∀ e : El, Xkn m e → szS m e < 4611686018427387904 → F23 k e = some ((szS m e : Nat) : Int)
 | 0, k, hk, e, h, _ => h.elim
 | m + 1, k, hk, e, h, hs => by
  obtain ⟨k, rfl⟩ : ∃ j, k = j + 1 := ⟨k - 1, by omega⟩
  rw [Xgy] at hs
  obtain ⟨q, hq⟩ := Xon m k e (fun x hx => XsX m k (by omega) x (h.2.2 x hx) (by have := Xe9 (szS m) hx; omega)) h.1 (Sl.l e.Kids).length k 0 e.Body.length (by omega) (by have := h.1; omega) (by rw [List.drop_zero]; omega)
  rw [List.drop_zero] at hq
  have hq' : Xfk (F23 k) k e.Kids (Sl.len e.Kids) k (Str.len e.Body) 0 = _ := hq
  rw [F23, bnd hq', Xgy]
  generalize ht : e.Body.length + ((Sl.l e.Kids).map (szS m)).sum = t at *
  have hm : Xkb ((t : Nat) : Int) 4001 = ((min t 4001 : Nat) : Int) := by unfold Xkb; split <;> omega
  simp only [hm]
  have hL := (Xdu (min t 4001)).1
  rw [bnd (Xwj k (min t 4001) (by omega))]
  rw [Str.len_nat, XeC (x := 1) (by omega), XeC (by omega)]
  simp
theorem Xmt {m : Nat} : ∀ (l : List El) (acc : Str), (∀ x ∈ l, match XaY m x with | some b => szS m x = b.length | none => 4000 < szS m x) →
  match cat (XaY m) acc l with
  | some b => acc.length + (l.map (szS m)).sum = b.length
  | none => 4000 < (l.map (szS m)).sum
 | [], acc, _ => by simp [cat]
 | x :: l, acc, ih => by
  have h := ih x List.mem_cons_self
  simp only [cat, List.map_cons, List.sum_cons]
  cases hb : XaY m x with
  | none =>
   rw [hb] at h
   simp only at h ⊢
   omega
  | some b =>
   rw [hb] at h
   have h2 := Xmt l (acc ++ b) (fun y hy => ih y (List.mem_cons_of_mem _ hy))
   simp only at h h2 ⊢
   cases hc : cat (XaY m) (acc ++ b) l with
   | none =>
    rw [hc] at h2
    simp only at h2 ⊢
    omega
   | some c =>
    rw [hc] at h2
    simp only [List.length_append] at h2 ⊢
    omega
theorem Xj3 : ∀ (m : Nat) (x : El), Xkn m x → match XaY m x with | some b => szS m x = b.length | none => 4000 < szS m x
 | 0, x, h => h.elim
 | m + 1, x, hf => by
  have h := Xmt (Sl.l x.Kids) x.Body (fun y hy => Xj3 m y (hf.2.2 y hy))
  rw [XaY, Xgy]
  cases hc : cat (XaY m) x.Body (Sl.l x.Kids) with
  | none =>
   rw [hc] at h
   simp only at h ⊢
   omega
  | some b =>
   rw [hc] at h
   simp only at h ⊢
   by_cases hb : b.length ≤ 4000
   ·rw [if_pos hb]
    simp only
    rw [h, Nat.min_eq_left (by omega)]
    simp; omega
   ·rw [if_neg hb]
    simp only
    omega
theorem Xwk (z : Int) : cv .u8 z = z % 256 := by
 unfold cv
 rw [IntKind.wrap_u8]
theorem XoG (z : Int) (h : 0 ≤ z) : Xln .i64 z 8 = some (z / 256) := by
 show (if (8 : Int) < 0 then none else some (z.fdiv (2 ^ (min (8 : Int).toNat IntKind.i64.bits)))) = _
 rw [if_neg (by omega), show (2 : Int) ^ (min (8 : Int).toNat IntKind.i64.bits) = 256 from rfl, Int.fdiv_eq_ediv_of_nonneg _ (by omega)]
def jb : Nat → Int → List Int → List Int
 | 0, _, xs => xs
 | n + 1, z, xs => if z = 0 ∧ xs.headD 0 < 128 then xs else jb n (z / 256) (z % 256 :: xs)
theorem XeU (n : Nat) (z x : Int) (xs : List Int) : jb (n + 1) z (x :: xs) = if z = 0 ∧ x < 128 then x :: xs else jb n (z / 256) (z % 256 :: x :: xs) := rfl
theorem Xkk : (List.range 256).all (fun n => (Xej .u8 (n : Int) 128 != 0) == decide (128 ≤ n)) = true := by decide +kernel
theorem XkR {y : Int} (h : 0 ≤ y ∧ y < 256) : (Xej .u8 y 128 != 0) = decide (128 ≤ y) := by
 have h1 := List.all_eq_true.1 Xkk y.toNat (by simp; omega)
 rw [beq_iff_eq, Int.toNat_of_nonneg h.1] at h1
 rw [h1, decide_eq_decide]; omega
theorem XlQ (k : Nat) : ∀ (j n m : Nat) (z x : Int) (xs : List Int), j + 1 ≤ m → j + 2 ≤ n → 0 ≤ z → z < 256 ^ j → 0 ≤ x → x < 256 → xs.length + j ≤ 100 →
  XcT k n (some (x :: xs)) z = some (.ret (Str.of (some (jb m z (x :: xs))))) ∧ ∃ q, Xec k n (some (x :: xs)) z = some (some (jb m z (x :: xs)), q) := by
 have step : ∀ (n : Nat) (z x : Int) (xs : List Int), 0 ≤ z → 0 ≤ x → x < 256 → xs.length ≤ 1000 →
   (z = 0 ∧ x < 128 → XcT k (n + 1) (some (x :: xs)) z = some (.ret (Str.of (some (x :: xs)))) ∧ Xec k (n + 1) (some (x :: xs)) z = some (some (x :: xs), z)) ∧
   (¬ (z = 0 ∧ x < 128) → XcT k (n + 1) (some (x :: xs)) z = XcT k n (some (z % 256 :: x :: xs)) (z / 256) ∧ Xec k (n + 1) (some (x :: xs)) z = Xec k n (some (z % 256 :: x :: xs)) (z / 256)) := by
  intro n z x xs hz hx0 hx1 hl
  have e0 : Sl.at? (some (x :: xs)) 0 = some x := rfl
  have ea : Sl.app? 1 (some [cv .u8 z]) (Sl.l (some (x :: xs))) = some (some (z % 256 :: x :: xs)) := by
   rw [Xwk, Sl.app?_ok (by simp [Sl.l]) (by simp [Sl.l]; omega)]
   rfl
  constructor
  ·rintro ⟨rfl, h⟩
   have h128 : decide (128 ≤ x) = false := decide_eq_false (by omega)
   constructor
   ·rw [XcT, bnd e0, XkR ⟨hx0, hx1⟩, h128]
    rfl
   ·rw [Xec, XaN (by rfl), bnd e0]
    have : decide (x < 128) = true := decide_eq_true h
    simp [this]
  ·intro h
   constructor
   ·rw [XcT, bnd e0, XkR ⟨hx0, hx1⟩]
    by_cases hx : 128 ≤ x
    ·rw [decide_eq_true hx, if_pos rfl, bnd rfl, if_neg (by simp; omega), bnd ea, bnd (XoG z hz)]
    ·rw [decide_eq_false hx, if_neg (by simp), bnd rfl, if_neg (by simp; omega), bnd ea, bnd (XoG z hz)]
   ·rw [Xec]
    have e1 : (z == -1) = false := by simp; omega
    by_cases hz0 : z = 0
    ·subst hz0
     have hd : decide (x < 128) = false := decide_eq_false (by omega)
     rw [if_pos (by rfl), bnd e0, hd, bnd rfl, if_neg (by simp), if_neg (by simp), bnd rfl, bnd rfl, if_pos (by rfl), bnd ea, bnd (XoG 0 (by omega))]
    ·have hz1 : (z == 0) = false := by simpa using hz0
     rw [XaC hz1, bnd rfl, if_neg (by simp), XaC e1, bnd rfl, bnd rfl, if_pos (by rfl), bnd ea, bnd (XoG z hz)]
 intro j
 induction j with
 | zero =>
  intro n m z x xs hm hn hz hz2 hx0 hx1 hl
  obtain ⟨n, rfl⟩ : ∃ i, n = i + 1 := ⟨n - 1, by omega⟩
  obtain ⟨m, rfl⟩ : ∃ i, m = i + 1 := ⟨m - 1, by omega⟩
  have hz0 : z = 0 := by simp at hz2; omega
  subst hz0
  by_cases hx : x < 128
  ·obtain ⟨a, b⟩ := (step n 0 x xs (by omega) hx0 hx1 (by omega)).1 ⟨rfl, hx⟩
   have hj : jb (m + 1) 0 (x :: xs) = x :: xs := by rw [XeU, if_pos ⟨rfl, hx⟩]
   rw [hj]
   exact ⟨a, 0, b⟩
  ·obtain ⟨a, b⟩ := (step n 0 x xs (by omega) hx0 hx1 (by omega)).2 (by omega)
   obtain ⟨n, rfl⟩ : ∃ i, n = i + 1 := ⟨n - 1, by omega⟩
   have hj : jb (m + 1) 0 (x :: xs) = 0 :: x :: xs := by
    rw [XeU, if_neg (by omega)]
    cases m with
    | zero => rfl
    | succ m => rw [XeU, if_pos (by simp)]; rfl
   obtain ⟨a2, b2⟩ := (step n 0 0 (x :: xs) (by omega) (by omega) (by omega) (by simp; omega)).1 ⟨rfl, by omega⟩
   rw [hj, a, b]
   exact ⟨a2, 0, b2⟩
 | succ j ih =>
  intro n m z x xs hm hn hz hz2 hx0 hx1 hl
  obtain ⟨n, rfl⟩ : ∃ i, n = i + 1 := ⟨n - 1, by omega⟩
  obtain ⟨m, rfl⟩ : ∃ i, m = i + 1 := ⟨m - 1, by omega⟩
  by_cases hc : z = 0 ∧ x < 128
  ·obtain ⟨a, b⟩ := (step n z x xs hz hx0 hx1 (by omega)).1 hc
   have hj : jb (m + 1) z (x :: xs) = x :: xs := by rw [XeU, if_pos hc]
   rw [hj]
   exact ⟨a, z, b⟩
  ·obtain ⟨a, b⟩ := (step n z x xs hz hx0 hx1 (by omega)).2 hc
   have hj : jb (m + 1) z (x :: xs) = jb m (z / 256) (z % 256 :: x :: xs) := by rw [XeU, if_neg hc]
   rw [hj, a, b]
   refine ih n m (z / 256) (z % 256) (x :: xs) (by omega) (by omega) (by omega) ?_ (by omega) (by omega) (by simp; omega)
   rw [Int.pow_succ] at hz2
   omega
def XgV (v : Int) : Str := Str.of (some (jb 4 (v / 256) [v % 256]))
theorem Xmu : ∀ (n : Nat) (z : Int) (xs : List Int), (jb n z xs).length ≤ n + xs.length ∧ xs.length ≤ (jb n z xs).length
 | 0, z, xs => by simp [jb]
 | n + 1, z, xs => by
  rw [jb]
  split
  ·omega
  ·have := Xmu n (z / 256) (z % 256 :: xs)
   simp at this
   omega
theorem Xj4 (v : Int) : (XgV v).length ≤ 5 ∧ 1 ≤ (XgV v).length := by
 have := Xmu 4 (v / 256) [v % 256]
 unfold XgV Str.of
 simp [Sl.l] at this ⊢
 omega
theorem XkS {k : Nat} (hk : 10 ≤ k) {v : Int} (h : 0 ≤ v ∧ v ≤ 2147483647) : F51 k v = some (XgV v) ∧ F83 k v = some (XgV v) := by
 obtain ⟨a, q, b⟩ := XlQ k 3 k 4 (v / 256) (v % 256) [] (by omega) (by omega) (by omega) (by omega) (by omega) (by omega) (by simp)
 constructor
 ·unfold F51
  rw [bnd (XoG v h.1), Xwk, bnd a]
  rfl
 ·unfold F83
  rw [bnd (XoG v h.1), Xwk, bnd b]
  rfl
def Xko (acc : Sl El) : List El → Sl El
 | [] => acc
 | x :: r => some (Sl.l acc ++ x :: r)
theorem XkT (acc : Sl El) (r : List El) : Sl.l (Xko acc r) = Sl.l acc ++ r := by
 cases r with
 | nil => simp [Xko]
 | cons x r => rfl
theorem XlR (acc : Sl El) (a b : List El) : Xko (Xko acc a) b = Xko acc (a ++ b) := by
 cases b with
 | nil => rw [List.append_nil]; rfl
 | cons y b =>
  show some (Sl.l (Xko acc a) ++ y :: b) = Xko acc (a ++ y :: b)
  rw [XkT, List.append_assoc]
  cases a <;> rfl
abbrev XdT (l : List El) : Sl El := Xko none l
theorem XcV (l : List El) : Sl.l (XdT l) = l := by rw [XkT]; rfl
def Xcl {α : Type} (g : Nat → α → List El) : Nat → List α → List El
 | _, [] => []
 | i, x :: xs => g i x ++ Xcl g (i + 1) xs
theorem Xc0 {α : Type} (g : α → El) : ∀ (i : Nat) (l : List α), Xcl (fun _ x => [g x]) i l = l.map g
 | _, [] => rfl
 | i, x :: xs => by rw [Xcl, Xc0 g (i + 1) xs]; rfl
theorem Xj5 {α : Type} (l : List α) (g : Nat → α → List El) (hg : ∀ i x, (g i x).length ≤ 1) (Lf : Nat → Sl El → Int → Option (Sl El × Int))
  (h1 : ∀ (n i : Nat) (y : α) (acc : Sl El), l[i]? = some y → (Sl.l acc).length ≤ 200000 → Lf (n + 1) acc (i : Int) = Lf n (Xko acc (g i y)) ((i + 1 : Nat) : Int))
  (h2 : ∀ n acc, Lf (n + 1) acc ((l.length : Nat) : Int) = some (acc, ((l.length : Nat) : Int))) :
  ∀ (j n i : Nat) (acc : Sl El), i + j = l.length → j < n → (Sl.l acc).length + j ≤ 200000 → Lf n acc (i : Int) = some (Xko acc (Xcl g i (l.drop i)), ((l.length : Nat) : Int))
 | j, 0, i, _, _, h, _ => by omega
 | 0, n + 1, i, acc, hij, _, _ => by
  have : i = l.length := by omega
  subst this
  rw [h2, List.drop_eq_nil_of_le (Nat.le_refl _)]; rfl
 | j + 1, n + 1, i, acc, hij, hn, ha => by
  have hi : i < l.length := by omega
  rw [h1 n i l[i] acc (List.getElem?_eq_getElem hi) (by omega), Xj5 l g hg Lf h1 h2 j n (i + 1) _ (by omega) (by omega) (by rw [XkT, List.length_append]; have := hg i l[i]; omega), XlR, List.drop_eq_getElem_cons hi]
  rfl
theorem XbU {α : Type} (l : List α) (g : Nat → α → List El) (hg : ∀ i x, (g i x).length ≤ 1) (Lf : Nat → Sl El → Int → Option (Sl El × Int))
  (h1 : ∀ (n i : Nat) (y : α) (acc : Sl El), l[i]? = some y → (Sl.l acc).length ≤ 200000 → Lf (n + 1) acc (i : Int) = Lf n (Xko acc (g i y)) ((i + 1 : Nat) : Int))
  (h2 : ∀ n acc, Lf (n + 1) acc ((l.length : Nat) : Int) = some (acc, ((l.length : Nat) : Int))) {n : Nat} (hn : l.length < n) (hl : l.length ≤ 200000) :
  Lf n none 0 = some (XdT (Xcl g 0 l), ((l.length : Nat) : Int)) := by
 have := Xj5 l g hg Lf h1 h2 l.length n 0 none (by omega) hn (by show 0 + l.length ≤ 200000; omega)
 rw [List.drop_zero] at this
 exact this
theorem Xlr {acc : Sl El} {y : El} (h : (Sl.l acc).length ≤ 200000) : Sl.app? 48 acc (Sl.l (some [y])) = some (Xko acc [y]) := by
 rw [Sl.app?_ok (by simp [Sl.l]) (by simp [Sl.l] at h ⊢; omega)]
 rfl
def tx (t : Int) (s : Str) : El := ⟨t, s, none⟩
def ls (t : Int) (l : Sl El) : El := ⟨t, [], l⟩
/-! Texts -/
theorem Xoo (k : Nat) (x : Sl Str) (w : Ms) (hl : (Sl.l x).length ≤ 200) (hk : 300 ≤ k) : Xfj k x (Sl.len x) w k none 0 = some (XdT ((Sl.l x).map (tx 4)), (((Sl.l x).length : Nat) : Int)) := by
 rw [← Xc0 (tx 4) 0]
 refine XbU (Sl.l x) _ (fun _ _ => Nat.le_refl _) (Xfj k x (Sl.len x) w) ?_ ?_ (by omega) (by omega)
 ·intro n i y acc hy ha
  have hi := XbP hy
  rw [Xfj, if_pos (decide_eq_true (by simp only [Sl.len]; omega)), bnd (Xbj hy), bnd (show F20 k 4 y = some (tx 4 y) from rfl), bnd (Xlr ha), XaK (by omega)]
 ·intro n acc
  rw [Xfj, if_neg (by simp [Sl.len])]
theorem Xgz (k : Nat) (t : Int) (x : Sl Str) (hl : (Sl.l x).length ≤ 200) (hk : 300 ≤ k) : F61 k t x = some (ls t (XdT ((Sl.l x).map (tx 4)))) := by
 have h := XbU (Sl.l x) (fun _ y => [tx 4 y]) (fun _ _ => Nat.le_refl _) (Xgp k t x (Xab.mk 0 [] none)) (by
  intro n i y acc hy ha
  have hi := XbP hy
  rw [Xgp, if_pos (decide_eq_true (by simp only [Sl.len]; omega)), bnd (Xbj hy), bnd (show F57 k y = some (tx 4 y) from rfl), bnd (Xlr ha), XaK (by omega)]) (by
  intro n acc
  rw [Xgp, if_neg (by simp [Sl.len])]) (n := k) (by omega) (by omega)
 rw [Xc0] at h
 unfold F61
 rw [bnd h]
 rfl
/-! Filters -/
def Xkl (m i : Nat) : Int := if i = 0 then 128 else if i + 1 = m then 130 else 129
def XeA (m : Nat) (i : Nat) (s : Str) : List El := if s = [] then [] else [tx (Xkl m i) s]
def elF : Nat → Fil → El
 | 0, _ => ls 0 none
 | n + 1, f =>
  if XcC f.Kind = true then ls (159 + f.Kind) (XdT ((Sl.l f.Kids).map (elF n)))
  else if f.Kind = 7 then tx 135 f.Attr
  else if f.Kind = 8 then ls 164 (some [tx 4 f.Attr, ls 48 (XdT (Xcl (XeA (Sl.l f.Subs).length) 0 (Sl.l f.Subs)))])
  else ls (if f.Kind = 4 then 163 else if f.Kind = 5 then 165 else 166) (some [tx 4 f.Attr, tx 4 f.Value])
theorem Xf0 (m i : Nat) (s : Str) : (XeA m i s).length ≤ 1 := by
 unfold XeA
 split <;> simp
theorem Xmv {m i : Nat} (h : i < m) (hm : m ≤ 200) : (if (i : Int) == 0 then some 128 else Option.bind (if (i : Int) == (sb .i64 ((m : Nat) : Int) 1) then some 130 else some 129) fun y => some y) = some (Xkl m i) := by
 rw [Xk8 (by omega)]
 unfold Xkl
 by_cases h0 : i = 0
 ·subst h0; rfl
 ·have e0 : ((i : Int) == 0) = false := by simpa using h0
  rw [e0, if_neg (by simp), if_neg h0]
  by_cases h1 : i + 1 = m
  ·have e1 : ((i : Int) == ((m : Nat) : Int) - 1) = true := by simp; omega
   rw [e1, if_pos rfl, if_pos h1]; rfl
  ·have e1 : ((i : Int) == ((m : Nat) : Int) - 1) = false := by simp; omega
   rw [e1, if_neg (by simp), if_neg h1]; rfl
theorem Xf1 : ∀ (n k : Nat) (f : Fil), XcZ n f → isS n f = true → n + 200110 ≤ k → F49 k f = some (elF n f) ∧ F60 k f = some (elF n f)
 | 0, k, f, h, _, _ => h.elim
 | n + 1, 0, f, _, _, hk => by omega
 | n + 1, k + 1, f, h, hi, hk => by
  obtain ⟨h1, h2, h3, h4, h5, h6⟩ := h
  rw [isS] at hi
  by_cases hkk : XcC f.Kind = true
  ·rw [if_pos hkk] at hi
   simp only [Bool.and_eq_true, List.all_eq_true] at hi
   have hkids := hi.2
   have hr : 1 ≤ f.Kind ∧ f.Kind ≤ 3 := by unfold XcC at hkk; rw [Bool.and_eq_true, decide_eq_true_eq, decide_eq_true_eq] at hkk; omega
   have la := XbU (Sl.l f.Kids) (fun _ y => [elF n y]) (fun _ _ => Nat.le_refl _) (Xgk (F49 k) k (159 + f.Kind) f.Kids (Sl.len f.Kids) (Xab.mk 0 [] none)) (by
    intro m i y acc hy ha
    have hi := XbP hy
    rw [Xgk, if_pos (decide_eq_true (by simp only [Sl.len]; omega)), bnd (Xbj hy), bnd (Xf1 n k y (h6 y (XaQ hy)) (hkids y (XaQ hy)) (by omega)).1, bnd (Xlr ha), XaK (by omega)]) (by
    intro m acc
    rw [Xgk, if_neg (by simp [Sl.len])]) (n := k) (by omega) (by omega)
   have lb := XbU (Sl.l f.Kids) (fun _ y => [elF n y]) (fun _ _ => Nat.le_refl _) (Xgq (F60 k) k (Xab.mk 0 [] none) f) (by
    intro m i y acc hy ha
    have hi := XbP hy
    rw [Xgq, if_pos (decide_eq_true (by simp only [Sl.len]; omega)), bnd (Xbj hy), bnd (Xf1 n k y (h6 y (XaQ hy)) (hkids y (XaQ hy)) (by omega)).2, bnd (Xlr ha), XaK (by omega)]) (by
    intro m acc
    rw [Xgq, if_neg (by simp [Sl.len])]) (n := k) (by omega) (by omega)
   rw [Xc0] at la lb
   have hE : elF (n + 1) f = ls (159 + f.Kind) (XdT ((Sl.l f.Kids).map (elF n))) := by rw [elF, if_pos hkk]
   have htag : Sl.at? (some [0, 160, 161, 162, 163, 165, 166, 135, 164]) f.Kind = some (159 + f.Kind) := by
    have : f.Kind = 1 ∨ f.Kind = 2 ∨ f.Kind = 3 := by omega
    rcases this with e | e | e <;> rw [e] <;> rfl
   have hk123 : (if f.Kind == 1 then some (f.Kind == 1) else Option.bind (if f.Kind == 2 then some (f.Kind == 2) else some (f.Kind == 3)) fun y => some y) = some true := by
    have : f.Kind = 1 ∨ f.Kind = 2 ∨ f.Kind = 3 := by omega
    rcases this with e | e | e <;> rw [e] <;> rfl
   constructor
   ·rw [F49, bnd htag, if_neg (by simp; omega), bnd hk123, if_pos rfl, bnd la, hE]; rfl
   ·have hc : cv .u8 (ad .i64 159 f.Kind) = 159 + f.Kind := by rw [XeC (by omega), cv8 (by omega)]
    rw [F60, if_pos (decide_eq_true (by omega)), bnd lb, hc, hE]; rfl
  ·rw [if_neg hkk] at hi
   have hnk : ¬ (1 ≤ f.Kind ∧ f.Kind ≤ 3) := by
    intro hh; apply hkk; unfold XcC; rw [Bool.and_eq_true, decide_eq_true_eq, decide_eq_true_eq]; omega
   by_cases k7 : f.Kind = 7
   ·have hE : elF (n + 1) f = tx 135 f.Attr := by rw [elF, if_neg hkk, if_pos k7]
    rw [hE]
    constructor
    ·rw [F49, k7]; rfl
    ·rw [F60, k7]; rfl
   rw [if_neg k7] at hi
   by_cases k8 : f.Kind = 8
   ·rw [if_pos k8] at hi
    have hE : elF (n + 1) f = ls 164 (some [tx 4 f.Attr, ls 48 (XdT (Xcl (XeA (Sl.l f.Subs).length) 0 (Sl.l f.Subs)))]) := by rw [elF, if_neg hkk, if_neg k7, if_pos k8]
    have hsub : (Sl.l f.Subs).length ≤ 20 := by
     simp only [Bool.and_eq_true] at hi
     have := hi.2
     unfold XdI at this
     simp only [Bool.and_eq_true, decide_eq_true_eq] at this
     exact this.1.1.2
    have la := XbU (Sl.l f.Subs) (XeA (Sl.l f.Subs).length) (Xf0 _) (Xgl (F49 k) k 164 f.Subs (Sl.len f.Subs) (Xab.mk 0 [] none) f) (by
     intro m i y acc hy ha
     have hi := XbP hy
     rw [Xgl, if_pos (decide_eq_true (by simp only [Sl.len]; omega)), bnd (Xbj hy), show Sl.len f.Subs = (((Sl.l f.Subs).length : Nat) : Int) from rfl, bnd (Xmv hi (by omega)), XaK (by omega)]
     unfold XeA
     by_cases hy0 : y = []
     ·subst hy0; rfl
     ·have e0 : (y == []) = false := by cases y with | nil => exact absurd rfl hy0 | cons a b => rfl
      rw [e0, if_pos (by rfl), bnd (show F20 k (Xkl (Sl.l f.Subs).length i) y = some (tx (Xkl (Sl.l f.Subs).length i) y) from rfl), bnd (Xlr ha), if_neg hy0]
      rfl) (by
     intro m acc
     rw [Xgl, if_neg (by simp [Sl.len])]) (n := k) (by omega) (by omega)
    have lb := XbU (Sl.l f.Subs) (XeA (Sl.l f.Subs).length) (Xf0 _) (Xgr (F60 k) k (Xab.mk 0 [] none) f) (by
     intro m i y acc hy ha
     have hi := XbP hy
     rw [Xgr, if_pos (decide_eq_true (by simp only [Sl.len]; omega)), show Sl.len f.Subs = (((Sl.l f.Subs).length : Nat) : Int) from rfl, bnd (Xmv hi (by omega)), bnd (Xbj hy), XaK (by omega)]
     unfold XeA
     by_cases hy0 : y = []
     ·subst hy0; rfl
     ·have e0 : (y == []) = false := by cases y with | nil => exact absurd rfl hy0 | cons a b => rfl
      rw [e0, if_pos (by rfl), bnd (Xbj hy), bnd (show F58 k (Xkl (Sl.l f.Subs).length i) y = some (tx (Xkl (Sl.l f.Subs).length i) y) from rfl), bnd (Xlr ha), if_neg hy0]
      rfl) (by
     intro m acc
     rw [Xgr, if_neg (by simp [Sl.len])]) (n := k) (by omega) (by omega)
    have e0 : Sl.at? (some [0, 160, 161, 162, 163, 165, 166, 135, 164]) f.Kind = some (164 : Int) := by rw [k8]; rfl
    rw [hE]
    constructor
    ·rw [F49, bnd e0, if_neg (by simp [k8]), bnd (show (if f.Kind == 1 then some (f.Kind == 1) else Option.bind (if f.Kind == 2 then some (f.Kind == 2) else some (f.Kind == 3)) fun y => some y) = some false by rw [k8]; rfl), if_neg (by simp), if_pos (by simp [k8]), bnd la]; rfl
    ·rw [F60, if_neg (by simp [k8]), if_neg (by simp [k8]), if_pos (by simp [k8]), bnd lb]; rfl
   ·rw [if_neg k8] at hi
    by_cases k456 : f.Kind = 4 ∨ f.Kind = 5 ∨ f.Kind = 6
    ·have hE : elF (n + 1) f = ls (if f.Kind = 4 then 163 else if f.Kind = 5 then 165 else 166) (some [tx 4 f.Attr, tx 4 f.Value]) := by rw [elF, if_neg hkk, if_neg k7, if_neg k8]
     have tb : ∀ t, F61 k t (some [f.Attr, f.Value]) = some (ls t (some [tx 4 f.Attr, tx 4 f.Value])) := fun t => Xgz k t (some [f.Attr, f.Value]) (by simp [Sl.l]) (by omega)
     rw [hE, F49, F60]
     rcases k456 with e | e | e <;> rw [e] <;> exact ⟨rfl, by first | exact tb _ | (rw [if_neg (by decide), if_neg (by decide), if_neg (by decide)]; simp [tb])⟩
    ·rw [if_neg k456] at hi; cases hi
def nm (t v : Int) : El := ⟨t, XgV v, none⟩
theorem Xit {k : Nat} (hk : 10 ≤ k) (t : Int) {v : Int} (h : 0 ≤ v ∧ v ≤ 2147483647) : F22 k t v = some (nm t v) := by
 unfold F22; rw [bnd (XkS hk h).1]; rfl
theorem XsY {k : Nat} (hk : 10 ≤ k) (t : Int) {v : Int} (h : 0 ≤ v ∧ v ≤ 2147483647) : F56 k t v = some (nm t v) := by
 unfold F56; rw [bnd (XkS hk h).2]; rfl
theorem XiZ {k : Nat} (hk : 10 ≤ k) (t : Int) {v : Int} (h : 0 ≤ v ∧ v ≤ 2147483647) : F26 k t v = some (nm t v) := by
 unfold F26; rw [bnd (XsY hk t h)]
def bl (b : Bool) : El := tx 1 (if b = true then [255] else [0])
theorem Xmw (k : Nat) (b : Bool) : F48 k b = some (bl b) := by cases b <;> rfl
theorem Xmx (k : Nat) (b : Bool) : F59 k b = some (bl b) := by cases b <;> rfl
/-! Modifications -/
def Xfs (m : Xat) : El := ls 48 (some [tx 4 m.Attr, ls 49 (XdT ((Sl.l m.Values).map (tx 4)))])
def Xkp (chg : Bool) (m : Xat) : El := if chg = true then ls 48 (some [nm 10 (m.Kind - 1), Xfs m]) else Xfs m
def XdK (chg : Bool) (l : List Xat) : El := ls 48 (XdT (l.map (Xkp chg)))
theorem XsZ (k : Nat) (hk : 300 ≤ k) (m : Xat) (h : (Sl.l m.Values).length ≤ 14) : F80 k m.Attr m.Values = some (Xfs m) := by
 have hL := XbU (Sl.l m.Values) (fun _ y => [tx 4 y]) (fun _ _ => Nat.le_refl _) (Xgm k m.Attr m.Values (Sl.len m.Values) (Xab.mk 0 [] none)) (by
  intro n i y acc hy ha
  have hi := XbP hy
  rw [Xgm, if_pos (decide_eq_true (by simp only [Sl.len]; omega)), bnd (Xbj hy), bnd (show F20 k 4 y = some (tx 4 y) from rfl), bnd (Xlr ha), XaK (by omega)]) (by
  intro n acc
  rw [Xgm, if_neg (by simp [Sl.len])]) (n := k) (by omega) (by omega)
 rw [Xc0] at hL
 unfold F80
 rw [bnd hL]
 rfl
theorem Xta (k : Nat) (hk : 300 ≤ k) (x : Sl Xat) (chg : Bool) (hl : (Sl.l x).length ≤ 14) (hx : ∀ m ∈ Sl.l x, XdJ m ∧ 1 ≤ m.Kind ∧ m.Kind ≤ 3) : F50 k x chg = some (XdK chg (Sl.l x)) := by
 have hL := XbU (Sl.l x) (fun _ y => [Xkp chg y]) (fun _ _ => Nat.le_refl _) (Xgn k chg x (Sl.len x) (Xab.mk 0 [] none)) (by
  intro n i y acc hy ha
  have hi := XbP hy
  obtain ⟨q1, q2, q3⟩ := hx y (XaQ hy)
  have hs : sb .i64 y.Kind 1 = y.Kind - 1 := Xk8 (by omega)
  have hz : (if chg = true then Option.bind (F22 k 10 (sb .i64 y.Kind 1)) fun y164 => Option.bind (F19 k 48 (some [y164, Xfs y])) fun y166 => some y166 else some (Xfs y)) = some (Xkp chg y) := by
   unfold Xkp
   cases chg
   ·rfl
   ·rw [if_pos rfl, hs, bnd (Xit (by omega) 10 (by omega))]; rfl
  rw [Xgn, if_pos (decide_eq_true (by simp only [Sl.len]; omega)), bnd (Xbj hy), bnd (XsZ k hk y q1.2.1), bnd hz, bnd (Xlr ha), XaK (by omega)]) (by
  intro n acc
  rw [Xgn, if_neg (by simp [Sl.len])]) (n := k) (by omega) (by omega)
 rw [Xc0] at hL
 unfold F50
 rw [bnd hL]
 rfl
theorem Xtb (k : Nat) (hk : 300 ≤ k) (x : Sl Xat) (hl : (Sl.l x).length ≤ 14) (hx : ∀ m ∈ Sl.l x, XdJ m ∧ 1 ≤ m.Kind ∧ m.Kind ≤ 3) : F62 k x = some (XdK true (Sl.l x)) ∧ F63 k x = some (XdK false (Sl.l x)) := by
 constructor
 ·have hL := XbU (Sl.l x) (fun _ y => [Xkp true y]) (fun _ _ => Nat.le_refl _) (Xgs k x (Xab.mk 0 [] none)) (by
   intro n i y acc hy ha
   have hi := XbP hy
   obtain ⟨q1, q2, q3⟩ := hx y (XaQ hy)
   have hs : sb .i64 y.Kind 1 = y.Kind - 1 := Xk8 (by omega)
   rw [Xgs, if_pos (decide_eq_true (by simp only [Sl.len]; omega)), bnd (Xbj hy), bnd (show F57 k y.Attr = some (tx 4 y.Attr) from rfl), bnd (Xbj hy), bnd (Xgz k 49 y.Values (by have := q1.2.1; omega) hk), bnd (show F25 k 48 (some [tx 4 y.Attr, ls 49 (XdT ((Sl.l y.Values).map (tx 4)))]) = some (Xfs y) from rfl), bnd (Xbj hy), hs, bnd (XsY (by omega) 10 (by omega)), bnd (show F25 k 48 (some [nm 10 (y.Kind - 1), Xfs y]) = some (Xkp true y) from rfl), bnd (Xlr ha), XaK (by omega)]) (by
   intro n acc
   rw [Xgs, if_neg (by simp [Sl.len])]) (n := k) (by omega) (by omega)
  rw [Xc0] at hL
  unfold F62
  rw [bnd hL]
  rfl
 ·have hL := XbU (Sl.l x) (fun _ y => [Xkp false y]) (fun _ _ => Nat.le_refl _) (Xgt k x (Xab.mk 0 [] none)) (by
   intro n i y acc hy ha
   have hi := XbP hy
   obtain ⟨q1, q2, q3⟩ := hx y (XaQ hy)
   rw [Xgt, if_pos (decide_eq_true (by simp only [Sl.len]; omega)), bnd (Xbj hy), bnd (show F57 k y.Attr = some (tx 4 y.Attr) from rfl), bnd (Xbj hy), bnd (Xgz k 49 y.Values (by have := q1.2.1; omega) hk), bnd (show F25 k 48 (some [tx 4 y.Attr, ls 49 (XdT ((Sl.l y.Values).map (tx 4)))]) = some (Xkp false y) from rfl), bnd (Xlr ha), XaK (by omega)]) (by
   intro n acc
   rw [Xgt, if_neg (by simp [Sl.len])]) (n := k) (by omega) (by omega)
  rw [Xc0] at hL
  unfold F63
  rw [bnd hL]
  rfl
/-! An operation -/
def XbC (a : Ms) : Int := if a.Op = 9 then (if a.Of = 1 then 97 else if a.Of = 3 then 101 else if a.Of = 4 then 103 else if a.Of = 5 then 105 else if a.Of = 6 then 107 else if a.Of = 7 then 109 else 111)
 else if a.Op = 1 then 96 else if a.Op = 3 then 99 else if a.Op = 4 then 102 else if a.Op = 5 then 104 else if a.Op = 7 then 108 else if a.Op = 8 then 110 else 100
def Xbq (a : Ms) : List El :=
 if a.Op = 1 then [nm 2 a.Version, tx 4 a.DN, tx 128 a.Pass]
 else if a.Op = 3 then [tx 4 a.DN, nm 10 a.Scope, nm 10 0, nm 2 a.Size, nm 2 0, bl false, elF 22 a.Filter, ls 48 (XdT ((Sl.l a.Wants).map (tx 4)))]
 else if a.Op = 4 then [tx 4 a.DN, XdK true (Sl.l a.Mods)]
 else if a.Op = 5 ∨ a.Op = 10 then [tx 4 a.DN, XdK false (Sl.l a.Mods)]
 else if a.Op = 7 then [tx 4 a.DN, tx 4 a.RDN, bl a.DelOld] ++ (if a.HasSup = true then [tx 128 a.Sup] else [])
 else if a.Op = 8 then [tx 4 a.DN, ls 48 (some [tx 4 a.Attr, tx 4 a.Value])]
 else [nm 10 a.Code, tx 4 a.Matched, tx 4 []]
def opE (a : Ms) : El := if a.Op = 6 then tx 74 a.DN else if a.Op = 2 then ls 66 none else ls (XbC a) (some (Xbq a))
def XeB (a : Ms) : El := ls 48 (some [nm 2 a.ID, opE a])
theorem f17 : ∀ (n k : Nat) (f : Fil) (d : Nat), d + n = 13 → n + 200100 ≤ k → ∃ b, F17 k f (d : Int) = some b ∧ (b = true → XcZ n f)
 | n, 0, f, d, _, hk => by omega
 | n, k + 1, f, d, hd, hk => by
  rw [F17]
  by_cases hg : (((((decide ((d : Int) > 12)) || (decide ((Sl.len f.Kids) > 8))) || (decide ((Str.len f.Attr) > 30))) || (decide ((Str.len f.Value) > 80))) || (decide ((Sl.len f.Subs) > 24))) = true
  ·rw [if_pos hg]; exact ⟨false, rfl, fun h => by cases h⟩
  ·rw [if_neg hg]
   simp only [Bool.or_eq_true, decide_eq_true_eq, not_or] at hg
   simp only [Sl.len, Str.len] at hg
   obtain ⟨⟨⟨⟨g1, g2⟩, g3⟩, g4⟩, g5⟩ := hg
   obtain ⟨m, rfl⟩ : ∃ m, n = m + 1 := ⟨n - 1, by omega⟩
   have hs := Xbe (Sl.l f.Subs) (fun _ s => !decide (Str.len s > 80)) (XfY (F17 k) k (d : Int) f) (by
    intro n i y hy
    have hi := XbP hy
    rw [XfY, if_pos (decide_eq_true (by simp only [Sl.len]; omega)), bnd (Xbj hy), XaK (by omega)]
    cases decide (Str.len y > 80) <;> rfl) (by
    intro n; rw [XfY, if_neg (by simp [Sl.len])]) (n := k) (by omega)
   have hkk := Xbe (Sl.l f.Kids) (fun _ g => (F17 k g (((d + 1 : Nat) : Int))).getD false) (XfZ (F17 k) k (d : Int) f) (by
    intro n i y hy
    have hi := XbP hy
    obtain ⟨b, hb, _⟩ := f17 m k y (d + 1) (by omega) (by omega)
    rw [XfZ, if_pos (decide_eq_true (by simp only [Sl.len]; omega)), bnd (Xbj hy), XaK (show d < 9223372036854775000 by omega), bnd hb, XaK (by omega)]
    simp only [hb, Option.getD_some]
    cases b <;> rfl) (by
    intro n; rw [XfZ, if_neg (by simp [Sl.len])]) (n := k) (by omega)
   rw [bnd hs]
   cases h1 : XaP (fun _ s => !decide (Str.len s > 80)) 0 (Sl.l f.Subs) with
   | false => exact ⟨false, rfl, fun h => by cases h⟩
   | true =>
    simp only [if_true]
    rw [bnd hkk]
    cases h2 : XaP (fun _ g => (F17 k g (((d + 1 : Nat) : Int))).getD false) 0 (Sl.l f.Kids) with
    | false => exact ⟨false, rfl, fun h => by cases h⟩
    | true =>
     refine ⟨true, rfl, fun _ => ⟨by omega, by omega, by omega, by omega, fun s hs' => ?_, fun g hg' => ?_⟩⟩
     ·obtain ⟨_, h⟩ := Xdt h1 s hs'
      simp only [Bool.not_eq_true', decide_eq_false_iff_not] at h
      simp only [Str.len] at h
      omega
     ·obtain ⟨_, h⟩ := Xdt h2 g hg'
      obtain ⟨b, hb, hb2⟩ := f17 m k g (d + 1) (by omega) (by omega)
      rw [hb, Option.getD_some] at h
      exact hb2 h
theorem Xja : ∀ (n m : Nat) (f : Fil), n ≤ m → XcZ n f → XcZ m f
 | 0, _, _, _, h => h.elim
 | n + 1, 0, _, h, _ => by omega
 | n + 1, m + 1, f, h, hf => by
  rw [XcZ] at hf ⊢
  obtain ⟨h1, h2, h3, h4, h5, h6⟩ := hf
  exact ⟨h1, h2, h3, h4, h5, fun g hg => Xja n m g (by omega) (h6 g hg)⟩
theorem adN {i : Nat} (h : i + 1 < 9223372036854775808) : ad .i64 (i : Int) 1 = ((i + 1 : Nat) : Int) := by rw [XeC (by omega)]; omega
theorem f8i {k : Nat} (hk : 300 ≤ k) (a : Ms) (i : Nat) (m : Xat) (hm : (Sl.l a.Mods)[i]? = some m) (hv : (Sl.l m.Values).length ≤ 14) :
  Xim k (i : Int) a k 0 = some (if (Sl.l m.Values).all (fun s => decide (s.length ≤ 500)) = true then .brk (((Sl.l m.Values).length : Nat) : Int) else .ret false) := by
 have h := Xbe (Sl.l m.Values) (fun _ s => decide (s.length ≤ 500)) (Xim k (i : Int) a) (by
  intro n j y hy
  have hj := XbP hy
  have e : decide (Str.len y > 500) = !decide (y.length ≤ 500) := by
   rw [Bool.eq_iff_iff, decide_eq_true_eq, Bool.not_eq_true', decide_eq_false_iff_not]; simp only [Str.len]; omega
  rw [Xim, bnd (Xbj hm), if_pos (decide_eq_true (by simp only [Sl.len]; omega)), bnd (Xbj hm), bnd (Xbj hy), e, XaK (by omega)]
  cases decide (y.length ≤ 500) <;> rfl) (by
  intro n; rw [Xim, bnd (Xbj hm), if_neg (by simp [Sl.len])]) (n := k) (by omega)
 rw [Xbw] at h
 exact h
def Xiu (m : Xat) : Bool := decide (m.Attr.length ≤ 500) && decide ((Sl.l m.Values).length ≤ 14) && (Sl.l m.Values).all fun s => decide (s.length ≤ 500)
theorem XkU {m : Xat} (h : Xiu m = true) : XdJ m := by
 unfold Xiu at h
 simp only [Bool.and_eq_true, decide_eq_true_eq, List.all_eq_true] at h
 exact ⟨h.1.1, h.1.2, h.2⟩
theorem f8 {k : Nat} (hk : 200200 ≤ k) (a : Ms) (hM : (Sl.l a.Mods).length < k) (hM2 : (Sl.l a.Mods).length ≤ 9223372036854775807) : ∃ b, F8 k a = some b ∧ (b = true → Few a) := by
 unfold F8
 by_cases hg : (((((((decide ((Str.len a.DN) > 500)) || (decide ((Str.len a.Pass) > 500))) || (decide ((Str.len a.RDN) > 500))) || (decide ((Str.len a.Sup) > 500))) || (decide ((Str.len a.Attr) > 500))) || (decide ((Str.len a.Value) > 500))) || (decide ((Str.len a.Matched) > 500)) || (decide ((Sl.len a.Wants) > 14))) = true
 ·rw [if_pos hg]; exact ⟨false, rfl, fun h => by cases h⟩
 rw [if_neg hg]
 simp only [Bool.or_eq_true, decide_eq_true_eq, not_or] at hg
 simp only [Sl.len, Str.len] at hg
 obtain ⟨⟨⟨⟨⟨⟨⟨g1, g2⟩, g3⟩, g4⟩, g5⟩, g6⟩, g7⟩, g8⟩ := hg
 have h0 := Xbe (Sl.l a.Wants) (fun _ s => decide (s.length ≤ 500)) (XiU k a) (by
  intro n j y hy
  have hj := XbP hy
  have e : decide (Str.len y > 500) = !decide (y.length ≤ 500) := by
   rw [Bool.eq_iff_iff, decide_eq_true_eq, Bool.not_eq_true', decide_eq_false_iff_not]; simp only [Str.len]; omega
  rw [XiU, if_pos (decide_eq_true (by simp only [Sl.len]; omega)), bnd (Xbj hy), e, XaK (by omega)]
  cases decide (y.length ≤ 500) <;> rfl) (by
  intro n; rw [XiU, if_neg (by simp [Sl.len])]) (n := k) (by omega)
 rw [Xbw] at h0
 have h2 := Xbe (Sl.l a.Mods) (fun _ m => Xiu m) (XiV k a) (by
  intro n j y hy
  have hj := XbP hy
  have e : decide (Str.len y.Attr > 500) = !decide (y.Attr.length ≤ 500) := by
   rw [Bool.eq_iff_iff, decide_eq_true_eq, Bool.not_eq_true', decide_eq_false_iff_not]; simp only [Str.len]; omega
  have e2 : decide (Sl.len y.Values > 14) = !decide ((Sl.l y.Values).length ≤ 14) := by
   rw [Bool.eq_iff_iff, decide_eq_true_eq, Bool.not_eq_true', decide_eq_false_iff_not]; simp only [Sl.len]; omega
  rw [XiV, if_pos (decide_eq_true (by simp only [Sl.len]; omega)), bnd (Xbj hy), e, Xbj hy, adN (by omega)]
  unfold Xiu
  by_cases c1 : y.Attr.length ≤ 500
  ·rw [decide_eq_true c1]
   simp only [Bool.not_true, Bool.false_eq_true, if_false, Option.bind_some, e2]
   by_cases c2 : (Sl.l y.Values).length ≤ 14
   ·rw [decide_eq_true c2]
    simp only [Bool.not_true, Bool.false_eq_true, if_false]
    rw [bnd (f8i (by omega) a j y hy c2)]
    cases (Sl.l y.Values).all (fun s => decide (s.length ≤ 500)) <;> rfl
   ·rw [decide_eq_false c2]; rfl
  ·rw [decide_eq_false c1]; rfl) (by
  intro n; rw [XiV, if_neg (by simp [Sl.len])]) (n := k) (by omega)
 rw [Xbw] at h2
 rw [bnd h0]
 cases w0 : (Sl.l a.Wants).all (fun s => decide (s.length ≤ 500)) with
 | false => exact ⟨false, rfl, fun h => by cases h⟩
 | true =>
  simp only [if_true]
  rw [bnd h2]
  cases m0 : (Sl.l a.Mods).all (fun m => Xiu m) with
  | false => exact ⟨false, rfl, fun h => by cases h⟩
  | true =>
   simp only [if_true]
   by_cases c : Sl.len a.Mods ≤ 14
   ·rw [if_pos (decide_eq_true c)]
    obtain ⟨b, hb, hb2⟩ := f17 13 k a.Filter 0 (by omega) (by omega)
    have hb : F17 k a.Filter 0 = some b := hb
    rw [hb]
    refine ⟨b, rfl, fun h => ?_⟩
    simp only [List.all_eq_true, decide_eq_true_eq] at w0
    simp only [List.all_eq_true] at m0
    simp only [Sl.len] at c
    exact ⟨by omega, by omega, by omega, by omega, by omega, by omega, by omega, by omega, w0, by omega, fun m hm => XkU (m0 m hm), Xja 13 22 _ (by omega) (hb2 h)⟩
   ·rw [if_neg (by simpa using c)]
    exact ⟨false, rfl, fun h => by cases h⟩
theorem Xmy {a : Ms} (h : opS a = true) : (a.Op = 1 → 1 ≤ a.Version ∧ a.Version ≤ 127) ∧ (a.Op = 3 → 0 ≤ a.Scope ∧ a.Scope ≤ 2 ∧ 0 ≤ a.Size) ∧ (a.Op = 9 → 0 ≤ a.Code ∧ a.Code ≤ 127) ∧ 1 ≤ a.Op ∧ a.Op ≤ 10 := by
 unfold opS at h
 by_cases h1 : a.Op = 1
 ·rw [if_pos h1, Bool.and_eq_true, decide_eq_true_eq, decide_eq_true_eq] at h
  refine ⟨fun _ => h, fun _ => ?_, fun _ => ?_, ?_⟩ <;> omega
 rw [if_neg h1] at h
 by_cases h3 : a.Op = 3
 ·rw [if_pos h3] at h
  simp only [Bool.and_eq_true, decide_eq_true_eq] at h
  refine ⟨fun _ => ?_, fun _ => ?_, fun _ => ?_, ?_⟩ <;> omega
 rw [if_neg h3] at h
 by_cases h4 : a.Op = 4
 ·refine ⟨fun _ => ?_, fun _ => ?_, fun _ => ?_, ?_⟩ <;> omega
 rw [if_neg h4] at h
 by_cases h5 : a.Op = 5 ∨ a.Op = 10
 ·refine ⟨fun _ => ?_, fun _ => ?_, fun _ => ?_, ?_⟩ <;> omega
 rw [if_neg h5] at h
 by_cases h9 : a.Op = 9
 ·rw [if_pos h9] at h
  simp only [Bool.and_eq_true, decide_eq_true_eq] at h
  refine ⟨fun _ => ?_, fun _ => ?_, fun _ => ?_, ?_⟩ <;> omega
 rw [if_neg h9, Bool.and_eq_true, decide_eq_true_eq, decide_eq_true_eq] at h
 refine ⟨fun _ => ?_, fun _ => ?_, fun _ => ?_, ?_⟩ <;> omega
theorem Xj6 {a : Ms} (h : isM a = true) : 0 ≤ a.ID ∧ a.ID ≤ 2147483647 ∧ XdX a (Xcz a) = true ∧ opS a = true := by
 unfold isM at h
 simp only [Bool.and_eq_true, decide_eq_true_eq] at h
 exact ⟨h.1.1.1.1, h.1.1.1.2, h.1.1.2, h.2⟩
abbrev eM (a : Ms) : PV := .agg [(.int .i64 a.ID), (.int .i64 a.Op), (.int .i64 a.Of), (.str a.DN), (.int .i64 a.Version), (.str a.Pass), (.int .i64 a.Scope), (.int .i64 a.Size), (.int .i64 a.Filter.Kind), (.str a.Filter.Attr), (.str a.Filter.Value), (Xar eS a.Filter.Subs), (Xar Xan a.Filter.Kids), (Xar eS a.Wants), (Xar Xao a.Mods), (.str a.RDN), (.bool a.DelOld), (.bool a.HasSup), (.str a.Sup), (.str a.Attr), (.str a.Value), (.int .i64 a.Code), (.str a.Matched)]
theorem XdU {l : List Xat} {top : Int} (h : Xcf l top = true) : ∀ m ∈ l, 1 ≤ m.Kind ∧ m.Kind ≤ top := by
 unfold Xcf at h
 rw [Bool.and_eq_true, List.all_eq_true] at h
 intro m hm
 have := h.1 m hm
 unfold XgE at this
 simp only [Bool.and_eq_true, decide_eq_true_eq] at this
 omega
structure Op (a : Ms) : Prop where
 id : 0 ≤ a.ID ∧ a.ID ≤ 2147483647
 op : 1 ≤ a.Op ∧ a.Op ≤ 10
 ver : a.Op = 1 → 1 ≤ a.Version ∧ a.Version ≤ 127
 search : a.Op = 3 → (0 ≤ a.Scope ∧ a.Scope ≤ 2) ∧ (0 ≤ a.Size ∧ a.Size ≤ 2147483647) ∧ Xj0 a.Filter = true ∧ (Sl.l a.Wants).length ≤ 12 ∧ Xby (Sl.l a.Wants) = true
 mods : a.Op = 4 ∨ a.Op = 5 ∨ a.Op = 10 → Xcf (Sl.l a.Mods) 3 = true
 res : a.Op = 9 → (a.Of = 1 ∨ a.Of = 3 ∨ a.Of = 4 ∨ a.Of = 5 ∨ a.Of = 6 ∨ a.Of = 7 ∨ a.Of = 8) ∧ 0 ≤ a.Code ∧ a.Code ≤ 127
 texts : Xby (XgF a) = true
theorem Xop {l : List Xat} (h : Xcf l 1 = true) : Xcf l 3 = true := by
 unfold Xcf at h ⊢
 rw [Bool.and_eq_true, List.all_eq_true] at h ⊢
 refine ⟨fun m hm => ?_, h.2⟩
 have := h.1 m hm
 unfold XgE at this ⊢
 simp only [Bool.and_eq_true, decide_eq_true_eq] at this ⊢
 obtain ⟨⟨⟨⟨h1, h2⟩, h3⟩, h4⟩, h5⟩ := this
 exact ⟨⟨⟨⟨h1, by omega⟩, h3⟩, h4⟩, h5⟩
theorem XlS {a : Ms} (h : isM a = true) : Op a := by
 obtain ⟨h1, h2, _, h4⟩ := Xj6 h
 have ht : Xby (XgF a) = true := by
  unfold isM at h
  simp only [Bool.and_eq_true] at h
  exact h.1.2
 have hn := Xmy h4
 refine ⟨⟨h1, h2⟩, hn.2.2.2, hn.1, fun e => ?_, fun e => ?_, fun e => ?_, ht⟩
 ·unfold opS at h4
  rw [if_neg (by omega), if_pos e] at h4
  simp only [Bool.and_eq_true, decide_eq_true_eq] at h4
  obtain ⟨⟨⟨⟨⟨⟨a1, a2⟩, a3⟩, a4⟩, a5⟩, a6⟩, a7⟩ := h4
  exact ⟨⟨a1, a2⟩, ⟨a3, a4⟩, a5, a6, a7⟩
 ·unfold opS at h4
  rw [if_neg (by omega), if_neg (by omega)] at h4
  by_cases e4 : a.Op = 4
  ·rwa [if_pos e4] at h4
  ·rw [if_neg e4, if_pos (by omega)] at h4
   exact Xop h4
 ·unfold opS at h4
  rw [if_neg (by omega), if_neg (by omega), if_neg (by omega), if_neg (by omega), if_pos e] at h4
  simp only [Bool.and_eq_true, decide_eq_true_eq] at h4
  omega
theorem XoH (o : Int) : (if o == 4 then some (o == 4) else Option.bind (if o == 5 then some (o == 5) else some (o == 10)) fun y => some y) = some (decide (o = 4 ∨ o = 5 ∨ o = 10)) := by
 by_cases h4 : o = 4
 ·simp [h4]
 by_cases h5 : o = 5
 ·simp [h5]
 by_cases h10 : o = 10
 ·simp [h10]
 ·simp [h4, h5, h10]
theorem op_a {k : Nat} (hk : 200200 ≤ k) {a : Ms} (ha : Few a) (h : Op a) : ∃ t, F18 k a.Op a.Of = some t ∧
  (if a.Op == 6 then Option.bind (F20 k t a.DN) fun y69 => some y69
   else Option.bind (if a.Op == 2 then some (ls t none) else Option.bind (F21 k a) fun y77 => Option.bind (F19 k t y77) fun y78 => some y78) fun y76 => some y76) = some (opE a) := by
 have cases10 : a.Op = 1 ∨ a.Op = 2 ∨ a.Op = 3 ∨ a.Op = 4 ∨ a.Op = 5 ∨ a.Op = 6 ∨ a.Op = 7 ∨ a.Op = 8 ∨ a.Op = 9 ∨ a.Op = 10 := by have := h.op; omega
 have hm : (a.Op = 4 ∨ a.Op = 5 ∨ a.Op = 10) → ∀ chg, F50 k a.Mods chg = some (XdK chg (Sl.l a.Mods)) := fun e chg =>
  Xta k (by omega) a.Mods chg ha.mods (fun m hm => ⟨ha.mod m hm, XdU (h.mods e) m hm⟩)
 rcases cases10 with e | e | e | e | e | e | e | e | e | e
 ·refine ⟨96, by rw [e]; rfl, ?_⟩
  have hb : F21 k a = some (some (Xbq a)) := by
   unfold F21 Xbq
   rw [if_pos (by simp [e]), bnd (Xit (by omega) 2 (by have := h.ver e; omega)), if_pos e]; rfl
  rw [if_neg (by simp [e]), if_neg (by simp [e]), bnd hb, opE, if_neg (by omega), if_neg (by omega), XbC, if_neg (by omega), if_pos e]; rfl
 ·refine ⟨66, by rw [e]; rfl, ?_⟩
  rw [if_neg (by simp [e]), if_pos (by simp [e]), opE, if_neg (by omega), if_pos e]; rfl
 ·refine ⟨99, by rw [e]; rfl, ?_⟩
  obtain ⟨s1, s2, s3, s4, s5⟩ := h.search e
  have hf : isS 22 a.Filter = true := by unfold Xj0 at s3; rw [Bool.and_eq_true] at s3; exact s3.2
  have hb : F21 k a = some (some (Xbq a)) := by
   unfold F21 Xbq
   rw [if_neg (by simp [e]), if_pos (by simp [e]), bnd (Xoo k a.Wants a (by omega) (by omega)), bnd (show F20 k 4 a.DN = some (tx 4 a.DN) from rfl), bnd (Xit (by omega) 10 (by omega)), bnd (Xit (by omega) 10 (by omega)), bnd (Xit (by omega) 2 s2), bnd (Xit (by omega) 2 (by omega)), bnd (Xmw k false), bnd (Xf1 22 k a.Filter ha.filter hf (by omega)).1, if_neg (by omega), if_pos e]; rfl
  rw [if_neg (by simp [e]), if_neg (by simp [e]), bnd hb, opE, if_neg (by omega), if_neg (by omega), XbC, if_neg (by omega), if_neg (by omega), if_pos e]; rfl
 ·refine ⟨102, by rw [e]; rfl, ?_⟩
  have hb : F21 k a = some (some (Xbq a)) := by
   unfold F21 Xbq
   rw [if_neg (by simp [e]), if_neg (by simp [e]), bnd (XoH a.Op), if_pos (decide_eq_true (by omega)), bnd (show F20 k 4 a.DN = some (tx 4 a.DN) from rfl), hm (by omega), if_neg (by omega), if_neg (by omega), if_pos e, show (a.Op == 4) = true by simp [e]]; rfl
  rw [if_neg (by simp [e]), if_neg (by simp [e]), bnd hb, opE, if_neg (by omega), if_neg (by omega), XbC, if_neg (by omega), if_neg (by omega), if_neg (by omega), if_pos e]; rfl
 ·refine ⟨104, by rw [e]; rfl, ?_⟩
  have hb : F21 k a = some (some (Xbq a)) := by
   unfold F21 Xbq
   rw [if_neg (by simp [e]), if_neg (by simp [e]), bnd (XoH a.Op), if_pos (decide_eq_true (by omega)), bnd (show F20 k 4 a.DN = some (tx 4 a.DN) from rfl), hm (by omega), if_neg (by omega), if_neg (by omega), if_neg (by omega), if_pos (by omega), show (a.Op == 4) = false by simp [e]]; rfl
  rw [if_neg (by simp [e]), if_neg (by simp [e]), bnd hb, opE, if_neg (by omega), if_neg (by omega), XbC, if_neg (by omega), if_neg (by omega), if_neg (by omega), if_neg (by omega), if_pos e]; rfl
 ·refine ⟨74, by rw [e]; rfl, ?_⟩
  rw [if_pos (by simp [e]), opE, if_pos e]; rfl
 ·refine ⟨108, by rw [e]; rfl, ?_⟩
  have hE : Xbq a = [tx 4 a.DN, tx 4 a.RDN, bl a.DelOld] ++ (if a.HasSup = true then [tx 128 a.Sup] else []) := by
   unfold Xbq
   rw [if_neg (by omega), if_neg (by omega), if_neg (by omega), if_neg (by omega), if_pos e]
  have hb : F21 k a = some (some (Xbq a)) := by
   rw [hE]
   unfold F21
   rw [if_neg (by simp [e]), if_neg (by simp [e]), bnd (XoH a.Op), if_neg (show ¬ decide (a.Op = 4 ∨ a.Op = 5 ∨ a.Op = 10) = true by simp; omega), if_pos (by simp [e]), bnd (show F20 k 4 a.DN = some (tx 4 a.DN) from rfl), bnd (show F20 k 4 a.RDN = some (tx 4 a.RDN) from rfl), bnd (Xmw k a.DelOld)]
   cases a.HasSup <;> rfl
  rw [if_neg (by simp [e]), if_neg (by simp [e]), bnd hb, opE, if_neg (by omega), if_neg (by omega), XbC, if_neg (by omega), if_neg (by omega), if_neg (by omega), if_neg (by omega), if_neg (by omega), if_pos e]; rfl
 ·refine ⟨110, by rw [e]; rfl, ?_⟩
  have hb : F21 k a = some (some (Xbq a)) := by
   unfold F21 Xbq
   rw [if_neg (by simp [e]), if_neg (by simp [e]), bnd (XoH a.Op), if_neg (show ¬ decide (a.Op = 4 ∨ a.Op = 5 ∨ a.Op = 10) = true by simp; omega), if_neg (by simp [e]), if_pos (by simp [e]), if_neg (by omega), if_neg (by omega), if_neg (by omega), if_neg (by omega), if_neg (by omega), if_pos e]; rfl
  rw [if_neg (by simp [e]), if_neg (by simp [e]), bnd hb, opE, if_neg (by omega), if_neg (by omega), XbC, if_neg (by omega), if_neg (by omega), if_neg (by omega), if_neg (by omega), if_neg (by omega), if_neg (by omega), if_pos e]; rfl
 ·obtain ⟨o1, o2⟩ := h.res e
  have hb : F21 k a = some (some (Xbq a)) := by
   unfold F21 Xbq
   rw [if_neg (by simp [e]), if_neg (by simp [e]), bnd (XoH a.Op), if_neg (show ¬ decide (a.Op = 4 ∨ a.Op = 5 ∨ a.Op = 10) = true by simp; omega), if_neg (by simp [e]), if_neg (by simp [e]), bnd (Xit (by omega) 10 (by omega)), if_neg (by omega), if_neg (by omega), if_neg (by omega), if_neg (by omega), if_neg (by omega), if_neg (by omega)]; rfl
  refine ⟨XbC a, ?_, ?_⟩
  ·unfold XbC
   rw [if_pos e, e]
   rcases o1 with o | o | o | o | o | o | o <;> rw [o] <;> rfl
  ·rw [if_neg (by simp [e]), if_neg (by simp [e]), bnd hb, opE, if_neg (by omega), if_neg (by omega)]; rfl
 ·refine ⟨100, by rw [e]; rfl, ?_⟩
  have hb : F21 k a = some (some (Xbq a)) := by
   unfold F21 Xbq
   rw [if_neg (by simp [e]), if_neg (by simp [e]), bnd (XoH a.Op), if_pos (decide_eq_true (by omega)), bnd (show F20 k 4 a.DN = some (tx 4 a.DN) from rfl), hm (by omega), if_neg (by omega), if_neg (by omega), if_neg (by omega), if_pos (by omega), show (a.Op == 4) = false by simp [e]]; rfl
  rw [if_neg (by simp [e]), if_neg (by simp [e]), bnd hb, opE, if_neg (by omega), if_neg (by omega), XbC, if_neg (by omega), if_neg (by omega), if_neg (by omega), if_neg (by omega), if_neg (by omega), if_neg (by omega), if_neg (by omega)]; rfl
theorem op_b {k : Nat} (hk : 200200 ≤ k) {a : Ms} (ha : Few a) (h : Op a) : F27 k a = some (opE a) := by
 have cases10 : a.Op = 1 ∨ a.Op = 2 ∨ a.Op = 3 ∨ a.Op = 4 ∨ a.Op = 5 ∨ a.Op = 6 ∨ a.Op = 7 ∨ a.Op = 8 ∨ a.Op = 9 ∨ a.Op = 10 := by have := h.op; omega
 have hm : (a.Op = 4 ∨ a.Op = 5 ∨ a.Op = 10) → F62 k a.Mods = some (XdK true (Sl.l a.Mods)) ∧ F63 k a.Mods = some (XdK false (Sl.l a.Mods)) := fun e =>
  Xtb k (by omega) a.Mods ha.mods (fun m hm => ⟨ha.mod m hm, XdU (h.mods e) m hm⟩)
 have dn : F57 k a.DN = some (tx 4 a.DN) := rfl
 have hO : ¬ a.Op = 6 → ¬ a.Op = 2 → opE a = ls (XbC a) (some (Xbq a)) := fun h6 h2 => by rw [opE, if_neg h6, if_neg h2]
 rcases cases10 with e | e | e | e | e | e | e | e | e | e
 ·rw [hO (by omega) (by omega), XbC, if_neg (by omega), if_pos e, Xbq, if_pos e]
  unfold F27
  rw [if_pos (by simp [e]), bnd (XiZ (by omega) 2 (by have := h.ver e; omega)), bnd dn]; rfl
 ·rw [opE, if_neg (by omega), if_pos e]
  unfold F27
  rw [if_neg (by simp [e]), if_pos (by simp [e])]; rfl
 ·obtain ⟨s1, s2, s3, s4, s5⟩ := h.search e
  have hf : isS 22 a.Filter = true := by unfold Xj0 at s3; rw [Bool.and_eq_true] at s3; exact s3.2
  rw [hO (by omega) (by omega), XbC, if_neg (by omega), if_neg (by omega), if_pos e, Xbq, if_neg (by omega), if_pos e]
  unfold F27
  rw [if_neg (by simp [e]), if_neg (by simp [e]), if_pos (by simp [e]), bnd dn, bnd (XiZ (by omega) 10 (by omega)), bnd (XiZ (by omega) 10 (by omega)), bnd (XiZ (by omega) 2 s2), bnd (XiZ (by omega) 2 (by omega)), bnd (Xmx k false), bnd (Xf1 22 k a.Filter ha.filter hf (by omega)).2, bnd (Xgz k 48 a.Wants (by omega) (by omega))]; rfl
 ·rw [hO (by omega) (by omega), XbC, if_neg (by omega), if_neg (by omega), if_neg (by omega), if_pos e, Xbq, if_neg (by omega), if_neg (by omega), if_pos e]
  unfold F27
  rw [if_neg (by simp [e]), if_neg (by simp [e]), if_neg (by simp [e]), if_pos (by simp [e]), bnd dn, bnd (hm (by omega)).1]; rfl
 ·rw [hO (by omega) (by omega), XbC, if_neg (by omega), if_neg (by omega), if_neg (by omega), if_neg (by omega), if_pos e, Xbq, if_neg (by omega), if_neg (by omega), if_neg (by omega), if_pos (by omega)]
  unfold F27
  rw [if_neg (by simp [e]), if_neg (by simp [e]), if_neg (by simp [e]), if_neg (by simp [e]), if_pos (by simp [e]), bnd dn, bnd (hm (by omega)).2]; rfl
 ·rw [opE, if_pos e]
  unfold F27
  rw [if_neg (by simp [e]), if_neg (by simp [e]), if_neg (by simp [e]), if_neg (by simp [e]), if_neg (by simp [e]), if_pos (by simp [e])]; rfl
 ·have hE : Xbq a = [tx 4 a.DN, tx 4 a.RDN, bl a.DelOld] ++ (if a.HasSup = true then [tx 128 a.Sup] else []) := by
   unfold Xbq
   rw [if_neg (by omega), if_neg (by omega), if_neg (by omega), if_neg (by omega), if_pos e]
  rw [hO (by omega) (by omega), XbC, if_neg (by omega), if_neg (by omega), if_neg (by omega), if_neg (by omega), if_neg (by omega), if_pos e, hE]
  unfold F27
  rw [if_neg (by simp [e]), if_neg (by simp [e]), if_neg (by simp [e]), if_neg (by simp [e]), if_neg (by simp [e]), if_neg (by simp [e]), if_pos (by simp [e]), bnd dn, bnd (show F57 k a.RDN = some (tx 4 a.RDN) from rfl), bnd (Xmx k a.DelOld)]
  cases a.HasSup <;> rfl
 ·rw [hO (by omega) (by omega), XbC, if_neg (by omega), if_neg (by omega), if_neg (by omega), if_neg (by omega), if_neg (by omega), if_neg (by omega), if_pos e, Xbq, if_neg (by omega), if_neg (by omega), if_neg (by omega), if_neg (by omega), if_neg (by omega), if_pos e]
  unfold F27
  rw [if_neg (by simp [e]), if_neg (by simp [e]), if_neg (by simp [e]), if_neg (by simp [e]), if_neg (by simp [e]), if_neg (by simp [e]), if_neg (by simp [e]), if_pos (by simp [e]), bnd dn, bnd (Xgz k 48 (some [a.Attr, a.Value]) (by simp [Sl.l]) (by omega))]; rfl
 ·obtain ⟨o1, o2⟩ := h.res e
  have hE : Xbq a = [nm 10 a.Code, tx 4 a.Matched, tx 4 []] := by
   unfold Xbq
   rw [if_neg (by omega), if_neg (by omega), if_neg (by omega), if_neg (by omega), if_neg (by omega), if_neg (by omega)]
  have ht : Sl.at? (some [0, 97, 0, 101, 103, 105, 107, 109, 111]) a.Of = some (XbC a) := by
   unfold XbC
   rw [if_pos e]
   rcases o1 with o | o | o | o | o | o | o <;> rw [o] <;> rfl
  rw [hO (by omega) (by omega), hE]
  unfold F27
  rw [if_neg (by simp [e]), if_neg (by simp [e]), if_neg (by simp [e]), if_neg (by simp [e]), if_neg (by simp [e]), if_neg (by simp [e]), if_neg (by simp [e]), if_neg (by simp [e]), if_neg (by simp [e]), bnd ht, bnd (XiZ (by omega) 10 (by omega))]; rfl
 ·rw [hO (by omega) (by omega), XbC, if_neg (by omega), if_neg (by omega), if_neg (by omega), if_neg (by omega), if_neg (by omega), if_neg (by omega), if_neg (by omega), Xbq, if_neg (by omega), if_neg (by omega), if_neg (by omega), if_pos (by omega)]
  unfold F27
  rw [if_neg (by simp [e]), if_neg (by simp [e]), if_neg (by simp [e]), if_neg (by simp [e]), if_neg (by simp [e]), if_neg (by simp [e]), if_neg (by simp [e]), if_neg (by simp [e]), if_pos (by simp [e]), bnd dn, bnd (hm (by omega)).2]; rfl
def XlT (t : Int) : Bool := decide (Xej .u8 t 31 ≠ 31) && decide (Xej .u8 t 32 = 0)
def Xiv (t : Int) : Bool := decide (Xej .u8 t 31 ≠ 31) && decide (Xej .u8 t 32 ≠ 0)
structure Xft (m c : Nat) (e : El) : Prop where
 few : Xkn m e
 fm : Fm m e
 sz : szS m e ≤ c
theorem Xft.up {m c d : Nat} {e : El} (h : Xft m c e) (hd : c ≤ d) : Xft m d e := ⟨h.few, h.fm, Nat.le_trans h.sz hd⟩
theorem XbQ {m c : Nat} {t : Int} {s : Str} (ht : XlT t = true) (hs : s.length ≤ c) (hc : c ≤ 5000) : Xft (m + 1) (4 + c) (tx t s) := by
 unfold XlT at ht
 simp only [Bool.and_eq_true, decide_eq_true_eq] at ht
 refine ⟨⟨by simp [tx, Sl.l], by simp only [tx]; omega, fun x hx => by simp [tx, Sl.l] at hx⟩, ⟨ht.1, fun _ => rfl, fun h => absurd ht.2 h⟩, ?_⟩
 rw [Xgy]
 have := (Xdu (min ((tx t s).Body.length + ((Sl.l (tx t s).Kids).map (szS m)).sum) 4001)).1
 have h0 : (tx t s).Body.length + ((Sl.l (tx t s).Kids).map (szS m)).sum = s.length := by simp [tx, Sl.l]
 rw [h0] at this ⊢
 omega
theorem Xmz {α : Type} (f : α → Nat) (c : Nat) : ∀ (l : List α), (∀ x ∈ l, f x ≤ c) → (l.map f).sum ≤ c * l.length
 | [], _ => by simp
 | x :: l, h => by
  have := Xmz f c l (fun y hy => h y (List.mem_cons_of_mem _ hy))
  have := h x List.mem_cons_self
  rw [List.map_cons, List.sum_cons, List.length_cons, Nat.mul_succ]
  omega
theorem Xh4 {m c : Nat} {t : Int} {l : Sl El} (ht : Xiv t = true) (hl : (Sl.l l).length ≤ 30) (hf : ∀ x ∈ Sl.l l, Xkn m x ∧ Fm m x) (hs : ((Sl.l l).map (szS m)).sum ≤ c) : Xft (m + 1) (4 + c) (ls t l) := by
 unfold Xiv at ht
 simp only [Bool.and_eq_true, decide_eq_true_eq] at ht
 refine ⟨⟨hl, by simp [ls], fun x hx => (hf x hx).1⟩, ⟨ht.1, fun h => absurd h ht.2, fun _ => ⟨rfl, fun x hx => (hf x hx).2⟩⟩, ?_⟩
 rw [Xgy]
 have := (Xdu (min ((ls t l).Body.length + ((Sl.l (ls t l).Kids).map (szS m)).sum) 4001)).1
 have h0 : (ls t l).Body.length + ((Sl.l (ls t l).Kids).map (szS m)).sum = ((Sl.l l).map (szS m)).sum := by simp [ls]
 rw [h0] at this ⊢
 omega
theorem Xdv {m c : Nat} {t : Int} {l : Sl El} (ht : Xiv t = true) (hl : (Sl.l l).length ≤ 30) (hf : ∀ x ∈ Sl.l l, Xft m c x) : Xft (m + 1) (4 + c * 30) (ls t l) := by
 refine Xh4 ht hl (fun x hx => ⟨(hf x hx).few, (hf x hx).fm⟩) ?_
 refine Nat.le_trans (Xmz (szS m) c (Sl.l l) fun x hx => (hf x hx).sz) (Nat.mul_le_mul_left _ hl)
theorem Xh5 {m : Nat} {t v : Int} (ht : XlT t = true) : Xft (m + 1) 9 (nm t v) := XbQ ht (Xj4 v).1 (by omega)
theorem XkV {m : Nat} (b : Bool) : Xft (m + 1) 5 (bl b) := XbQ (t := 1) (s := if b = true then [255] else [0]) (c := 1) (by decide +kernel) (by cases b <;> simp) (by omega)
theorem p4 : XlT 4 = true := by decide +kernel
theorem c48 : Xiv 48 = true := by decide +kernel
theorem c49 : Xiv 49 = true := by decide +kernel
/-! Filters -/
theorem Xm0 : ∀ (l : List Int) (x : Int), (∀ c ∈ l, 1 ≤ c) → cl l x ≤ 20 → cl l x = x + l.sum ∧ x + l.length ≤ 20
 | [], x, _, h => by simp [cl] at h ⊢; omega
 | c :: r, x, hc, h => by
  rw [cl] at h ⊢
  by_cases hx : x ≤ 20
  ·rw [if_pos hx] at h ⊢
   have h1 := hc c List.mem_cons_self
   obtain ⟨a, b⟩ := Xm0 r (x + c) (fun d hd => hc d (List.mem_cons_of_mem _ hd)) h
   rw [a, List.sum_cons, List.length_cons]
   constructor
   ·omega
   ·push_cast; omega
  ·rw [if_neg hx] at h; omega
theorem Xm1 (n : Nat) (q : Fil → Nat) (c : Fil → Int) : ∀ (l : List Fil), (∀ f ∈ l, (q f : Int) ≤ 3000 * c f) → (((l.map q).sum : Nat) : Int) ≤ 3000 * (l.map c).sum
 | [], _ => by simp
 | f :: l, h => by
  have := Xm1 n q c l (fun g hg => h g (List.mem_cons_of_mem _ hg))
  have := h f List.mem_cons_self
  rw [List.map_cons, List.sum_cons, List.map_cons, List.sum_cons]
  push_cast
  omega
theorem Xh6 {α : Type} {g : Nat → α → List El} : ∀ {i : Nat} {l : List α} {e : El}, e ∈ Xcl g i l → ∃ j, ∃ s ∈ l, e ∈ g j s
 | i, x :: xs, e, h => by
  rw [Xcl] at h
  rcases List.mem_append.1 h with h | h
  ·exact ⟨i, x, List.mem_cons_self, h⟩
  ·obtain ⟨j, s, hs, he⟩ := Xh6 h
   exact ⟨j, s, List.mem_cons_of_mem _ hs, he⟩
theorem Xg0 {α : Type} {g : Nat → α → List El} (hg : ∀ i x, (g i x).length ≤ 1) : ∀ (i : Nat) (l : List α), (Xcl g i l).length ≤ l.length
 | _, [] => by simp [Xcl]
 | i, x :: xs => by
  rw [Xcl, List.length_append, List.length_cons]
  have := Xg0 hg (i + 1) xs
  have := hg i x
  omega
theorem Xg1 : ∀ (n : Nat) (f : Fil), XcZ n f → isS n f = true → cS n f ≤ 20 → Xkn (n + 4) (elF n f) ∧ Fm (n + 4) (elF n f) ∧ (szS (n + 4) (elF n f) : Int) ≤ 3000 * cS n f
 | 0, f, h, _, _ => h.elim
 | n + 1, f, h, hi, hc => by
  obtain ⟨h1, h2, h3, h4, h5, h6⟩ := h
  have hc0 := XdR (n + 1) f
  rw [isS] at hi
  rw [elF]
  by_cases hkk : XcC f.Kind = true
  ·rw [if_pos hkk] at hi ⊢
   simp only [Bool.and_eq_true, List.all_eq_true] at hi
   have hkids := hi.2
   have hr : f.Kind = 1 ∨ f.Kind = 2 ∨ f.Kind = 3 := by unfold XcC at hkk; rw [Bool.and_eq_true, decide_eq_true_eq, decide_eq_true_eq] at hkk; omega
   rw [cS, if_pos hkk] at hc ⊢
   have hcl : cl ((Sl.l f.Kids).map (cS n)) 1 ≤ 20 := by unfold Xkb at hc; split at hc <;> omega
   obtain ⟨s1, s2⟩ := Xm0 _ 1 (fun c hc => by obtain ⟨g, _, rfl⟩ := List.mem_map.1 hc; exact (XdR n g).1) hcl
   rw [List.length_map] at s2
   have e1 : Xkb (cl ((Sl.l f.Kids).map (cS n)) 1) 21 = 1 + ((Sl.l f.Kids).map (cS n)).sum := by unfold Xkb; split <;> omega
   rw [e1]
   have hmem : ∀ g ∈ Sl.l f.Kids, cS n g ≤ ((Sl.l f.Kids).map (cS n)).sum := by
    have aux : ∀ (l : List Fil) (g : Fil), g ∈ l → cS n g ≤ (l.map (cS n)).sum ∧ 0 ≤ (l.map (cS n)).sum := by
     intro l
     induction l with
     | nil => intro g hg; cases hg
     | cons y l ih =>
      intro g hg
      have hy := (XdR n y).1
      rw [List.map_cons, List.sum_cons]
      have hnn : 0 ≤ (l.map (cS n)).sum := by
       cases l with
       | nil => simp
       | cons z l => exact (ih z List.mem_cons_self).2
      rcases List.mem_cons.1 hg with rfl | hg
      ·omega
      ·have := ih g hg; omega
    exact fun g hg => (aux _ g hg).1
   have ih := fun g hg => Xg1 n g (h6 g hg) (hkids g hg) (by have := hmem g hg; omega)
   have hsum := Xm1 n (fun g => szS (n + 4) (elF n g)) (cS n) (Sl.l f.Kids) (fun g hg => (ih g hg).2.2)
   have ht : Xiv (159 + f.Kind) = true := by rcases hr with e | e | e <;> rw [e] <;> decide +kernel
   have hF := Xh4 (m := n + 4) (t := 159 + f.Kind) (l := XdT ((Sl.l f.Kids).map (elF n))) (c := ((Sl.l f.Kids).map fun g => szS (n + 4) (elF n g)).sum) ht (by rw [XcV, List.length_map]; omega)
    (fun x hx => by
     rw [XcV] at hx
     obtain ⟨g, hg, rfl⟩ := List.mem_map.1 hx
     exact ⟨(ih g hg).1, (ih g hg).2.1⟩) (by rw [XcV, List.map_map]; exact Nat.le_refl _)
   refine ⟨hF.few, hF.fm, ?_⟩
   have := hF.sz
   rw [show n + 1 + 4 = n + 4 + 1 by omega]
   omega
  ·rw [if_neg hkk] at hi ⊢
   have hcc : cS (n + 1) f = 1 := by rw [cS, if_neg hkk]
   rw [hcc]
   have fin : ∀ {e : El}, Xft (n + 1 + 4) 3000 e → Xkn (n + 1 + 4) e ∧ Fm (n + 1 + 4) e ∧ (szS (n + 1 + 4) e : Int) ≤ 3000 * 1 := fun h => ⟨h.few, h.fm, by have := h.sz; omega⟩
   have tyl : Xip f.Attr = true → f.Attr.length ≤ 16 := by
    intro h
    unfold Xip at h
    cases hA : f.Attr with
    | nil => simp
    | cons c r =>
     rw [hA] at h
     simp only [Bool.and_eq_true, decide_eq_true_eq] at h
     simp; omega
   by_cases k7 : f.Kind = 7
   ·rw [if_pos k7] at hi ⊢
    simp only [Bool.and_eq_true] at hi
    exact fin ((XbQ (t := 135) (s := f.Attr) (c := 16) (by decide +kernel) (tyl hi.1.1.1) (by omega)).up (by omega))
   rw [if_neg k7] at hi ⊢
   by_cases k8 : f.Kind = 8
   ·rw [if_pos k8] at hi ⊢
    simp only [Bool.and_eq_true] at hi
    have hp := hi.2
    unfold XdI at hp
    simp only [Bool.and_eq_true, decide_eq_true_eq] at hp
    have hlen := hp.1.1.2
    have hall := hp.2
    have sub : ∀ x ∈ Xcl (XeA (Sl.l f.Subs).length) 0 (Sl.l f.Subs), Xft (n + 3) 64 x := by
     intro x hx
     obtain ⟨j, s, hs, he⟩ := Xh6 hx
     unfold XeA at he
     split at he
     ·cases he
     ·rw [List.mem_singleton] at he
      subst he
      obtain ⟨j', hj'⟩ := Xdt hall s hs
      unfold XcU at hj'
      simp only [Bool.not_eq_true', Bool.or_eq_false_iff, decide_eq_false_iff_not] at hj'
      refine XbQ (m := n + 2) (c := 60) ?_ (by omega) (by omega)
      unfold Xkl
      split
      ·decide +kernel
      ·split <;> decide +kernel
    have f1 : Xft (n + 4) 20 (tx 4 f.Attr) := XbQ p4 (tyl hi.1.1.1) (by omega)
    have f2 : Xft (n + 4) (4 + 64 * 30) (ls 48 (XdT (Xcl (XeA (Sl.l f.Subs).length) 0 (Sl.l f.Subs)))) :=
     Xdv (m := n + 3) c48 (by rw [XcV]; have := Xg0 (Xf0 (Sl.l f.Subs).length) 0 (Sl.l f.Subs); omega) (fun x hx => sub x (by rwa [XcV] at hx))
    refine fin ((Xh4 (m := n + 4) (c := 20 + (4 + 64 * 30)) (by decide +kernel) (by simp [Sl.l]) (fun x hx => ?_) ?_).up (by omega))
    ·simp only [Sl.l, Option.getD_some, List.mem_cons, List.not_mem_nil, or_false] at hx
     rcases hx with rfl | rfl
     ·exact ⟨f1.few, f1.fm⟩
     ·exact ⟨f2.few, f2.fm⟩
    ·have a := f1.sz; have b := f2.sz
     show szS (n + 4) _ + (szS (n + 4) _ + 0) ≤ _
     omega
   ·rw [if_neg k8] at hi ⊢
    by_cases k456 : f.Kind = 4 ∨ f.Kind = 5 ∨ f.Kind = 6
    ·rw [if_pos k456] at hi
     simp only [Bool.and_eq_true, decide_eq_true_eq] at hi
     have ha : f.Attr.length ≤ 16 := tyl hi.1.1.1
     have hv : f.Value.length ≤ 60 := hi.1.1.2
     refine fin ((Xdv (m := n + 4) (c := 64) ?_ (by simp [Sl.l]) (fun x hx => ?_)).up (by omega))
     ·split
      ·decide +kernel
      ·split <;> decide +kernel
     ·simp only [Sl.l, Option.getD_some, List.mem_cons, List.not_mem_nil, or_false] at hx
      rcases hx with rfl | rfl
      ·exact XbQ p4 (show f.Attr.length ≤ 60 by omega) (by omega)
      ·exact XbQ p4 hv (by omega)
    ·rw [if_neg k456] at hi; cases hi
theorem Xm2 {α : Type} {P : α → Prop} {a b : α} (ha : P a) (hb : P b) : ∀ x ∈ Sl.l (some [a, b]), P x := by
 intro x hx
 simp only [Sl.l, Option.getD_some, List.mem_cons, List.not_mem_nil, or_false] at hx
 rcases hx with rfl | rfl
 ·exact ha
 ·exact hb
theorem mem_map {α : Type} {P : El → Prop} {g : α → El} {l : List α} (h : ∀ a ∈ l, P (g a)) : ∀ x ∈ Sl.l (XdT (l.map g)), P x := by
 intro x hx
 rw [XcV] at hx
 obtain ⟨a, ha, rfl⟩ := List.mem_map.1 hx
 exact h a ha
theorem XgW {m : Nat} {t : Int} (ht : Xiv t = true) {l : List Str} (hl : l.length ≤ 14) (h : ∀ s ∈ l, s.length ≤ 500) : Xft (m + 2) (4 + 504 * 30) (ls t (XdT (l.map (tx 4)))) :=
 Xdv ht (by rw [XcV, List.length_map]; omega) (mem_map fun s hs => XbQ p4 (h s hs) (by omega))
theorem Xiw {m : Nat} {x : Xat} (h : XdJ x) : Xft (m + 3) (4 + 15124 * 30) (Xfs x) :=
 Xdv (m := m + 2) (c := 15124) c48 (by simp [Sl.l]) (Xm2 ((XbQ (m := m + 1) p4 h.1 (by omega)).up (by omega)) (XgW (m := m) c49 h.2.1 h.2.2))
theorem Xix {m : Nat} (chg : Bool) {l : List Xat} (hl : l.length ≤ 14) (h : ∀ x ∈ l, XdJ x) : Xft (m + 5) 500000000 (XdK chg l) := by
 refine (Xdv (m := m + 4) (c := 4 + 453724 * 30) c48 (by rw [XcV, List.length_map]; omega) (mem_map fun x hx => ?_)).up (by omega)
 cases chg with
 | false => exact (Xiw (m := m + 1) (h x hx)).up (by omega)
 | true => exact Xdv (m := m + 3) (c := 453724) c48 (by simp [Sl.l]) (Xm2 ((Xh5 (m := m + 2) (by decide +kernel)).up (by omega)) ((Xiw (m := m) (h x hx)).up (by omega)))
theorem Xoq {a : Ms} (ha : Few a) (h : Op a) : Xft 27 100000000000 (opE a) := by
 unfold opE
 by_cases h6 : a.Op = 6
 ·rw [if_pos h6]; exact (XbQ (t := 74) (by decide +kernel) ha.dn (by omega)).up (by omega)
 rw [if_neg h6]
 by_cases h2 : a.Op = 2
 ·rw [if_pos h2]
  exact (XbQ (m := 26) (c := 0) (t := 66) (s := []) (by decide +kernel) (by simp) (by omega)).up (by omega)
 rw [if_neg h2]
 have hT : Xiv (XbC a) = true := by
  unfold XbC
  repeat' split
  all_goals decide +kernel
 have dn : Xft 26 504 (tx 4 a.DN) := XbQ p4 ha.dn (by omega)
 have t4 : ∀ {s : Str}, s.length ≤ 500 → Xft 26 504 (tx 4 s) := fun h => XbQ p4 h (by omega)
 have t128 : ∀ {s : Str}, s.length ≤ 500 → Xft 26 504 (tx 128 s) := fun h => XbQ (by decide +kernel) h (by omega)
 have n2 : ∀ v, Xft 26 504 (nm 2 v) := fun v => (Xh5 (by decide +kernel)).up (by omega)
 have n10 : ∀ v, Xft 26 504 (nm 10 v) := fun v => (Xh5 (by decide +kernel)).up (by omega)
 have key : (Xbq a).length ≤ 30 ∧ ∀ x ∈ Xbq a, Xft 26 600000000 x := by
  unfold Xbq
  by_cases e1 : a.Op = 1
  ·rw [if_pos e1]
   refine ⟨by simp, fun x hx => ?_⟩
   simp only [List.mem_cons, List.not_mem_nil, or_false] at hx
   rcases hx with rfl | rfl | rfl
   ·exact (n2 _).up (by omega)
   ·exact dn.up (by omega)
   ·exact (t128 ha.pass).up (by omega)
  rw [if_neg e1]
  by_cases e3 : a.Op = 3
  ·rw [if_pos e3]
   obtain ⟨s1, s2, s3, s4, s5⟩ := h.search e3
   unfold Xj0 at s3
   rw [Bool.and_eq_true, decide_eq_true_eq] at s3
   obtain ⟨f1, f2, f3⟩ := Xg1 22 a.Filter ha.filter s3.2 s3.1
   have f3' : (szS 26 (elF 22 a.Filter) : Int) ≤ 3000 * cS 22 a.Filter := f3
   have fF : Xft 26 60000 (elF 22 a.Filter) := ⟨f1, f2, by omega⟩
   refine ⟨by simp, fun x hx => ?_⟩
   simp only [List.mem_cons, List.not_mem_nil, or_false] at hx
   rcases hx with rfl | rfl | rfl | rfl | rfl | rfl | rfl | rfl
   ·exact dn.up (by omega)
   ·exact (n10 _).up (by omega)
   ·exact (n10 _).up (by omega)
   ·exact (n2 _).up (by omega)
   ·exact (n2 _).up (by omega)
   ·exact (XkV _).up (by omega)
   ·exact fF.up (by omega)
   ·exact (XgW (m := 24) c48 ha.wants ha.want).up (by omega)
  rw [if_neg e3]
  by_cases e4 : a.Op = 4
  ·rw [if_pos e4]
   refine ⟨by simp, fun x hx => ?_⟩
   simp only [List.mem_cons, List.not_mem_nil, or_false] at hx
   rcases hx with rfl | rfl
   ·exact dn.up (by omega)
   ·exact (Xix (m := 21) true ha.mods ha.mod).up (by omega)
  rw [if_neg e4]
  by_cases e5 : a.Op = 5 ∨ a.Op = 10
  ·rw [if_pos e5]
   refine ⟨by simp, fun x hx => ?_⟩
   simp only [List.mem_cons, List.not_mem_nil, or_false] at hx
   rcases hx with rfl | rfl
   ·exact dn.up (by omega)
   ·exact (Xix (m := 21) false ha.mods ha.mod).up (by omega)
  rw [if_neg e5]
  by_cases e7 : a.Op = 7
  ·rw [if_pos e7]
   refine ⟨by cases a.HasSup <;> simp, fun x hx => ?_⟩
   rcases List.mem_append.1 hx with hx | hx
   ·simp only [List.mem_cons, List.not_mem_nil, or_false] at hx
    rcases hx with rfl | rfl | rfl
    ·exact dn.up (by omega)
    ·exact (t4 ha.rdn).up (by omega)
    ·exact (XkV _).up (by omega)
   ·split at hx
    ·simp only [List.mem_cons, List.not_mem_nil, or_false] at hx
     subst hx
     exact (t128 ha.sup).up (by omega)
    ·cases hx
  rw [if_neg e7]
  by_cases e8 : a.Op = 8
  ·rw [if_pos e8]
   refine ⟨by simp, fun x hx => ?_⟩
   simp only [List.mem_cons, List.not_mem_nil, or_false] at hx
   rcases hx with rfl | rfl
   ·exact dn.up (by omega)
   ·exact (Xdv (m := 25) (c := 504) c48 (by simp [Sl.l]) (Xm2 (XbQ p4 ha.attr (by omega)) (XbQ p4 ha.value (by omega)))).up (by omega)
  rw [if_neg e8]
  refine ⟨by simp, fun x hx => ?_⟩
  simp only [List.mem_cons, List.not_mem_nil, or_false] at hx
  rcases hx with rfl | rfl | rfl
  ·exact (n10 _).up (by omega)
  ·exact (t4 ha.matched).up (by omega)
  ·exact (t4 (s := []) (by simp)).up (by omega)
 exact (Xdv (m := 26) (c := 600000000) (l := some (Xbq a)) hT key.1 key.2).up (by omega)
theorem Xj7 {a : Ms} (ha : Few a) (h : Op a) : Xft 28 5000000000000 (XeB a) :=
 (Xdv (m := 27) (c := 100000000000) c48 (by simp [Sl.l]) (Xm2 ((Xh5 (by decide +kernel)).up (by omega)) (Xoq ha h))).up (by omega)
theorem Xiy {a : Ms} (h : XdX a (Xcz a) = true) : (a.Op ≠ 3 → Sl.l a.Wants = []) ∧ (¬ (a.Op = 4 ∨ a.Op = 5 ∨ a.Op = 10) → Sl.l a.Mods = []) := by
 unfold XdX at h
 simp only [Bool.and_eq_true, beq_iff_eq] at h
 obtain ⟨⟨⟨⟨_, hw⟩, hm⟩, _⟩, _⟩ := h
 have hW : a.Op ≠ 3 → (Xcz a).Wants = none := fun h => by
  unfold Xcz
  repeat' split
  all_goals first | rfl | (exfalso; omega)
 have hM : ¬ (a.Op = 4 ∨ a.Op = 5 ∨ a.Op = 10) → (Xcz a).Mods = none := fun h => by
  unfold Xcz
  repeat' split
  all_goals first | rfl | (exfalso; omega)
 refine ⟨fun h => by rw [hw, hW h]; rfl, fun h => ?_⟩
 rw [hM h] at hm
 have := Xh0 hm
 exact List.eq_nil_of_length_eq_zero this
theorem f12w {k : Nat} (hk : 200200 ≤ k) (hk2 : k < 400000000000000) {a : Ms} (ha : Xlq a) : F12 k a = some (isM a) := by
 have hS : F14 k a (Xcz a) = some (XdX a (Xcz a)) := f14w hk hk2 ha (Xgx ha.filter)
 have hT : F35 k (some (XgF a)) = some (Xby (XgF a)) := by
  rw [f35 (some (XgF a)) (show 7 < k by omega) (show 7 ≤ 200000 by omega)]
  show some (Xby (XgF a) && true) = _
  rw [Bool.and_true]
 have hW := f35 (k := k) a.Wants (by have := ha.wants; omega) (by have := ha.wants; omega)
 have hM := f36 (k := k) (by omega) a.Mods (a.Op == 4) ha.mods ha.mod
 have e0 : (some [a.DN, a.Pass, a.RDN, a.Sup, a.Attr, a.Value, a.Matched] : Sl Str) = some (XgF a) := rfl
 unfold F12 isM
 rw [f34c a, e0, hT, hW, hM]
 by_cases hop : 1 ≤ a.Op ∧ a.Op ≤ 10
 ·have b1 : decide (a.Op < 1) = false := decide_eq_false (by omega)
  have b2 : decide (a.Op > 10) = false := decide_eq_false (by omega)
  have hid : ((((decide (a.Op < 1)) || (decide (a.Op > 10))) || (decide (a.ID < 0))) || (decide (a.ID > 2147483647))) = !(decide (0 ≤ a.ID) && decide (a.ID ≤ 2147483647)) := by
   rw [b1, b2, Bool.eq_iff_iff]
   simp only [Bool.or_eq_true, decide_eq_true_eq, Bool.not_eq_true', Bool.and_eq_false_iff, decide_eq_false_iff_not, Bool.false_eq_true, false_or]
   omega
  rw [hid]
  cases (decide (0 ≤ a.ID) && decide (a.ID ≤ 2147483647))
  ·rfl
  ·rw [Bool.not_true, if_neg (by simp), bnd rfl]
   rw [bnd hS]
   cases hq : XdX a (Xcz a)
   ·rfl
   obtain ⟨r1, r2⟩ := Xiy hq
   cases Xby (XgF a)
   ·rfl
   simp only [Bool.not_true, Bool.false_eq_true, if_false, Option.bind_some, Bool.true_and]
   unfold opS
   have cases10 : a.Op = 1 ∨ a.Op = 2 ∨ a.Op = 3 ∨ a.Op = 4 ∨ a.Op = 5 ∨ a.Op = 6 ∨ a.Op = 7 ∨ a.Op = 8 ∨ a.Op = 9 ∨ a.Op = 10 := by omega
   have m0 : ∀ t, Xcf [] t = true := fun t => rfl
   have w0 : (Xby [] && decide (([] : List Str).length ≤ 12)) = true := rfl
   rcases cases10 with e | e | e | e | e | e | e | e | e | e
   ·rw [r1 (by omega), r2 (by omega)]; simp only [m0, w0, e]; rfl
   ·rw [r1 (by omega), r2 (by omega)]; simp only [m0, w0, e]; rfl
   ·rw [r2 (by omega), f37 hk hk2 ha.filter]
    simp only [m0, e]
    simp only [ge_iff_le]
    cases hc : (((decide (0 ≤ a.Scope)) && (decide (a.Scope ≤ 2))) && (decide (0 ≤ a.Size))) && (decide (a.Size ≤ 2147483647))
    ·cases Xby (Sl.l a.Wants) <;> cases decide ((Sl.l a.Wants).length ≤ 12) <;> simp
    ·cases Xj0 a.Filter <;> cases Xby (Sl.l a.Wants) <;> cases decide ((Sl.l a.Wants).length ≤ 12) <;> simp
   ·rw [r1 (by omega)]
    simp only [w0, e]
    cases hc : Xcf (Sl.l a.Mods) 3 <;> simp [hc]
   ·rw [r1 (by omega)]
    simp only [w0, e]
    cases hc : Xcf (Sl.l a.Mods) 1 <;> simp [hc]
   ·rw [r1 (by omega), r2 (by omega)]; simp only [m0, w0, e]; rfl
   ·rw [r1 (by omega), r2 (by omega)]; simp only [m0, w0, e]; rfl
   ·rw [r1 (by omega), r2 (by omega)]; simp only [m0, w0, e]; rfl
   ·rw [r1 (by omega), r2 (by omega)]
    have e2 : (a.Of != 2) = decide (a.Of ≠ 2) := by rw [Bool.eq_iff_iff, bne_iff_ne, decide_eq_true_eq]
    simp only [m0, w0, e, e2]
    rfl
   ·rw [r1 (by omega)]
    simp only [w0, e]
    cases hc : Xcf (Sl.l a.Mods) 1 <;> simp [hc]
 ·have hid : ((((decide (a.Op < 1)) || (decide (a.Op > 10))) || (decide (a.ID < 0))) || (decide (a.ID > 2147483647))) = true := by
   simp only [Bool.or_eq_true, decide_eq_true_eq]
   omega
  have ho : opS a = false := by
   cases h : opS a
   ·rfl
   ·exact absurd (Xmy h).2.2.2 hop
  rw [hid, ho, Bool.and_false]
  rfl
theorem Xtc {a : Ms} (ha : Xlq a) (h : isM a = true) : Few a := by
 have hO := XlS h
 obtain ⟨r1, r2⟩ := Xiy (Xj6 h).2.2.1
 have ht : ∀ s ∈ XgF a, s.length ≤ 400 := by
  have := hO.texts
  unfold Xby at this
  rw [List.all_eq_true] at this
  exact fun s hs => of_decide_eq_true (this s hs)
 have hw : (Sl.l a.Wants).length ≤ 14 ∧ ∀ s ∈ Sl.l a.Wants, s.length ≤ 500 := by
  by_cases e : a.Op = 3
  ·obtain ⟨_, _, _, h4, h5⟩ := hO.search e
   unfold Xby at h5
   rw [List.all_eq_true] at h5
   exact ⟨by omega, fun s hs => by have := of_decide_eq_true (h5 s hs); omega⟩
  ·rw [r1 e]; exact ⟨by simp, fun s hs => nomatch hs⟩
 have hm : (Sl.l a.Mods).length ≤ 14 ∧ ∀ m ∈ Sl.l a.Mods, XdJ m := by
  by_cases e : a.Op = 4 ∨ a.Op = 5 ∨ a.Op = 10
  ·have h3 := hO.mods e
   unfold Xcf at h3
   rw [Bool.and_eq_true, List.all_eq_true] at h3
   refine ⟨by have := of_decide_eq_true h3.2; omega, fun m hm => ?_⟩
   have := h3.1 m hm
   unfold XgE Xby at this
   simp only [Bool.and_eq_true, decide_eq_true_eq, List.all_eq_true] at this
   obtain ⟨⟨⟨⟨_, _⟩, q3⟩, q4⟩, q5⟩ := this
   exact ⟨by omega, by omega, fun s hs => by have := q5 s hs; omega⟩
  ·rw [r2 e]; exact ⟨by simp, fun s hs => nomatch hs⟩
 exact ⟨by have := ht a.DN (by simp [XgF]); omega, by have := ht a.Pass (by simp [XgF]); omega, by have := ht a.RDN (by simp [XgF]); omega, by have := ht a.Sup (by simp [XgF]); omega, by have := ht a.Attr (by simp [XgF]); omega, by have := ht a.Value (by simp [XgF]); omega, by have := ht a.Matched (by simp [XgF]); omega, hw.1, hw.2, hm.1, hm.2, ha.filter⟩
def Xfu (a : Ms) (d : Nat) : Str × Int :=
 if isM a = false then ([], 14) else match XaY 28 (XeB a) with
  | none => ([], 13)
  | some b => if 4000 < b.length then ([], 13) else if 20 < d then ([], 12) else (b, 0)
theorem Xiz {k : Nat} (hk : 200200 ≤ k) (hk2 : k < 400000000000000) {a : Ms} (hw : Xlq a) : ∃ d, F9 k a = some (Xfu a d) ∧ F10 k a = some (Xfu a d) ∧ (isM a = true → ∀ n, Dpt n (XeB a) ↔ d ≤ n) := by
 have h11 := f11w hk hk2 hw
 have h12 := f12w hk hk2 hw
 cases hi : isM a with
 | false =>
  rw [hi] at h11 h12
  refine ⟨0, ?_, ?_, fun h => by cases h⟩
  ·unfold F9 Xfu; rw [bnd h11, hi]; rfl
  ·unfold F10 Xfu; rw [bnd h12, hi]; rfl
 | true =>
  rw [hi] at h11 h12
  have hO := XlS hi
  have ha := Xtc hw hi
  have hF := Xj7 ha hO
  obtain ⟨t, ht, hop⟩ := op_a hk ha hO
  have hop2 := op_b hk ha hO
  have hsz := XsX 28 k (by omega) (XeB a) hF.few (by have := hF.sz; omega)
  have hbs := Xj3 28 (XeB a) hF.few
  obtain ⟨fm, w1, w2⟩ := Xis 28 k (by omega) (XeB a) hF.few
  have hfm : fm = true := w2.2 hF.fm
  subst hfm
  obtain ⟨d, d1, d2, _, _, d5⟩ := XkP 28 k (by omega) (by omega) (XeB a) hF.few
  obtain ⟨b1, b2⟩ := Xj2 28 k (by omega) (XeB a) hF.few
  have hid := hO.id
  have hr : Xfu a d = match XaY 28 (XeB a) with
    | none => ([], 13)
    | some b => if 4000 < b.length then ([], 13) else if 20 < d then ([], 12) else (b, 0) := by
   unfold Xfu
   rw [hi, if_neg (by simp)]
  refine ⟨d, ?_, ?_, fun _ => d5⟩ <;> rw [hr]
  ·unfold F9
   rw [bnd h11, if_neg (by simp), bnd ht, bnd (show F19 k t none = some (ls t none) from rfl), bnd hop, bnd (Xit (by omega) 2 hid), bnd (show F19 k 48 (some [nm 2 a.ID, opE a]) = some (XeB a) from rfl), bnd hsz]
   cases hb : XaY 28 (XeB a) with
   | none =>
    rw [hb] at hbs
    simp only at hbs
    rw [if_pos (decide_eq_true (by omega))]
   | some b =>
    rw [hb] at hbs b1
    simp only at hbs
    simp only
    by_cases hl : 4000 < b.length
    ·rw [if_pos (decide_eq_true (by omega)), if_pos hl]
    ·rw [if_neg (by simp; omega), if_neg hl]
     have hw : F24 k (XeB a) = some (if 20 < d then ([], 12) else (b, 0)) := by
      unfold F24
      rw [bnd w1, if_neg (by simp), bnd d1]
      by_cases hd : 20 < d
      ·rw [if_pos (decide_eq_true (by omega)), if_pos hd]
      ·rw [if_neg (by simp; omega), if_neg hd, bnd b1]
       rfl
     rw [bnd hw]
  ·unfold F10
   rw [bnd h12, if_neg (by simp), bnd (XiZ (by omega) 2 hid), bnd hop2, bnd (show F25 k 48 (some [nm 2 a.ID, opE a]) = some (XeB a) from rfl), bnd b2]
   cases hb : XaY 28 (XeB a) with
   | none => rfl
   | some b =>
    have hc : ((!(Xi9 (some b)).2) || (decide ((Str.len (Xi9 (some b)).1) > 4000))) = decide (4000 < b.length) := by
     show (false || decide (Str.len b > 4000)) = _
     rw [Bool.false_or, decide_eq_decide]; simp only [Str.len]; omega
    rw [hc]
    simp only
    by_cases hl : 4000 < b.length
    ·rw [if_pos (decide_eq_true hl), if_pos hl]
    ·rw [if_neg (by simpa using hl), if_neg hl, bnd d2]
     by_cases hd : 20 < d
     ·rw [if_pos (decide_eq_true (by omega)), if_pos hd]
     ·rw [if_neg (by simp; omega), if_neg hd]; rfl
theorem Xj8 {k : Nat} (hk : 200200 ≤ k) (hk2 : k < 400000000000000) {a : Ms} (ha : Few a) : ∃ d, F9 k a = some (Xfu a d) ∧ F10 k a = some (Xfu a d) ∧ (isM a = true → ∀ n, Dpt n (XeB a) ↔ d ≤ n) := Xiz hk hk2 ha.w
/-! Filters -/
def nF : Nat → Fil → Fil
 | 0, f => ⟨f.Kind, f.Attr, f.Value, some (Sl.l f.Subs), none⟩
 | n + 1, f => ⟨f.Kind, f.Attr, f.Value, some (Sl.l f.Subs), some ((Sl.l f.Kids).map (nF n))⟩
theorem Xg2 {α β : Type} (p : Nat → α → Bool) (c : α → β) (full : List α) : ∀ (i : Nat) (l m : List α), l.length = m.length → (∀ j, m[j]? = full[i + j]?) → (∀ x ∈ l, ∀ j y, full[j]? = some y → (p j x = true ↔ c x = c y)) →
  (XaP p i l = true ↔ l.map c = m.map c)
 | i, [], [], _, _, _ => by simp [XaP]
 | i, x :: l, y :: m, h, hf, hp => by
  have h0 : full[i]? = some y := by have := hf 0; simpa using this.symm
  have ih := Xg2 p c full (i + 1) l m (by simpa using h) (fun j => by have := hf (j + 1); rw [show i + 1 + j = i + (j + 1) by omega]; simpa using this) (fun z hz => hp z (List.mem_cons_of_mem _ hz))
  show (p i x && XaP p (i + 1) l) = true ↔ _
  rw [Bool.and_eq_true, ih, hp x List.mem_cons_self i y h0]
  simp
 | i, x :: l, [], h, _, _ => by simp at h
 | i, [], y :: m, h, _, _ => by simp at h
theorem XkW : ∀ (n : Nat) (f g : Fil), XcZ n f → (Xcn n f g = true ↔ nF n f = nF n g)
 | 0, f, g, h => h.elim
 | n + 1, f, g, h => by
  rw [Xcn, nF, nF]
  simp only [Bool.and_eq_true, decide_eq_true_eq, beq_iff_eq, Xae.mk.injEq, Option.some.injEq]
  by_cases hl : (Sl.l f.Kids).length = (Sl.l g.Kids).length
  ·rw [Xg2 _ (nF n) (Sl.l g.Kids) 0 (Sl.l f.Kids) (Sl.l g.Kids) hl (fun j => by rw [Nat.zero_add]) (fun x hx j y hy => by
    show (match (Sl.l g.Kids)[j]? with | some y => Xcn n x y | none => false) = true ↔ _
    rw [hy]
    exact XkW n x y (h.2.2.2.2.2 x hx))]
   constructor
   ·rintro ⟨⟨⟨⟨⟨a, b⟩, c⟩, d⟩, _⟩, e⟩; exact ⟨a, b, c, d, e⟩
   ·rintro ⟨a, b, c, d, e⟩; exact ⟨⟨⟨⟨⟨a, b⟩, c⟩, d⟩, hl⟩, e⟩
  ·constructor
   ·rintro ⟨⟨_, e⟩, _⟩; exact absurd e hl
   ·rintro ⟨_, _, _, _, e⟩
    have := congrArg List.length e
    simp only [List.length_map] at this
    exact absurd this hl
theorem Xor : ∀ (n : Nat) (f : Fil), nF n (nF n f) = nF n f
 | 0, f => rfl
 | n + 1, f => by
  simp only [nF, Sl.l_some, List.map_map]
  congr 2
  exact List.map_congr_left fun x _ => Xor n x
theorem Xm3 : ∀ (n : Nat) (f : Fil), elF n (nF n f) = elF n f
 | 0, f => rfl
 | n + 1, f => by
  have : (Sl.l (nF (n + 1) f).Kids).map (elF n) = (Sl.l f.Kids).map (elF n) := by
   simp only [nF, Sl.l_some, List.map_map]
   exact List.map_congr_left fun x _ => Xm3 n x
  rw [elF, this]
  rfl
theorem Xm4 : ∀ (n : Nat) (f : Fil), isS n (nF n f) = isS n f
 | 0, f => rfl
 | n + 1, f => by
  have h1 : (Sl.l (nF (n + 1) f).Kids).all (isS n) = (Sl.l f.Kids).all (isS n) := by
   simp only [nF, Sl.l_some, List.all_map]
   congr 1
   exact funext fun x => Xm4 n x
  have h2 : (Sl.l (nF (n + 1) f).Kids).length = (Sl.l f.Kids).length := by simp only [nF, Sl.l_some, List.length_map]
  rw [isS, h1, h2]
  rfl
theorem Xtd : ∀ (n : Nat) (f : Fil), cS n (nF n f) = cS n f
 | 0, f => rfl
 | n + 1, f => by
  have h1 : (Sl.l (nF (n + 1) f).Kids).map (cS n) = (Sl.l f.Kids).map (cS n) := by
   simp only [nF, Sl.l_some, List.map_map]
   exact List.map_congr_left fun x _ => Xtd n x
  rw [cS, h1]
  rfl
theorem Xi0 : ∀ (n : Nat) (f : Fil), XcZ n (nF n f) ↔ XcZ n f
 | 0, f => Iff.rfl
 | n + 1, f => by
  simp only [XcZ, nF, Sl.l_some, List.length_map, List.mem_map]
  constructor
  ·rintro ⟨a, b, c, d, e, h⟩
   exact ⟨a, b, c, d, e, fun g hg => (Xi0 n g).1 (h _ ⟨g, hg, rfl⟩)⟩
  ·rintro ⟨a, b, c, d, e, h⟩
   refine ⟨a, b, c, d, e, ?_⟩
   rintro _ ⟨g, hg, rfl⟩
   exact (Xi0 n g).2 (h g hg)
/-! Modifications -/
def Xjb (m : Xat) : Xat := ⟨m.Kind, m.Attr, some (Sl.l m.Values)⟩
theorem Xj9 {α β : Type} {p : α → α → Bool} {c : α → β} (hp : ∀ x y, p x y = true ↔ c x = c y) : ∀ (l m : List α), Xi8 p l m = true ↔ l.map c = m.map c
 | [], [] => by simp [Xi8]
 | [], y :: m => by simp [Xi8]
 | x :: l, [] => by simp [Xi8]
 | x :: l, y :: m => by
  have ih := Xj9 hp l m
  simp only [Xi8, Bool.and_eq_true, hp x y, ih, List.map_cons, List.cons.injEq]
theorem Xkm (a b : Xat) : Xh2 a b = true ↔ Xjb a = Xjb b := by
 simp only [Xh2, Xjb, Bool.and_eq_true, beq_iff_eq, Xat.mk.injEq, Option.some.injEq, and_assoc]
/-! Messages -/
def nM (a : Ms) : Ms := ⟨a.ID, a.Op, a.Of, a.DN, a.Version, a.Pass, a.Scope, a.Size, nF 22 a.Filter, some (Sl.l a.Wants), some ((Sl.l a.Mods).map Xjb), a.RDN, a.DelOld, a.HasSup, a.Sup, a.Attr, a.Value, a.Code, a.Matched⟩
theorem Xf2 {a b : Ms} (ha : XcZ 22 a.Filter) : XdX a b = true ↔ nM a = nM b := by
 simp only [XdX, sc1, sc2, nM, Xgw, Bool.and_eq_true, beq_iff_eq, XkW 22 _ _ ha, Xj9 Xkm, Xay.mk.injEq, Option.some.injEq]
 constructor
 ·rintro ⟨⟨⟨⟨h1, h2⟩, h3⟩, ⟨⟨⟨⟨⟨a1, a2⟩, a3⟩, a4⟩, a5⟩, a6⟩, a7⟩, ⟨⟨⟨⟨⟨⟨⟨b1, b2⟩, b3⟩, b4⟩, b5⟩, b6⟩, b7⟩, b8⟩, b9⟩
  exact ⟨a1, a2, a3, b3, a4, b4, a5, a6, h1, h2, h3, b5, b1, b2, b6, b7, b8, a7, b9⟩
 ·rintro ⟨a1, a2, a3, b3, a4, b4, a5, a6, h1, h2, h3, b5, b1, b2, b6, b7, b8, a7, b9⟩
  exact ⟨⟨⟨⟨h1, h2⟩, h3⟩, ⟨⟨⟨⟨⟨a1, a2⟩, a3⟩, a4⟩, a5⟩, a6⟩, a7⟩, ⟨⟨⟨⟨⟨⟨⟨b1, b2⟩, b3⟩, b4⟩, b5⟩, b6⟩, b7⟩, b8⟩, b9⟩
theorem XjA (l : List Xat) : (l.map Xjb).map Xjb = l.map Xjb := by
 rw [List.map_map]; exact List.map_congr_left fun x _ => rfl
theorem Xwl (a : Ms) : nM (nM a) = nM a := by
 simp only [nM, Sl.l_some, Xor, XjA]
theorem Xos (c : Bool) (l : List Xat) : XdK c (l.map Xjb) = XdK c l := by
 unfold XdK
 rw [List.map_map]
 rfl
theorem XkX (a : Ms) : XeB (nM a) = XeB a := by
 have hb : Xbq (nM a) = Xbq a := by
  simp only [Xbq, nM, Sl.l_some, Xm3, Xos]
  rfl
 have ho : opE (nM a) = opE a := by
  unfold opE
  rw [hb]
  rfl
 unfold XeB
 rw [ho]
 rfl
theorem XlU (l : List Xat) (t : Int) : Xcf (l.map Xjb) t = Xcf l t := by
 simp only [Xcf, List.all_map, List.length_map]
 rfl
theorem Xte (a : Ms) : opS (nM a) = opS a := by
 simp only [opS, nM, Xj0, Sl.l_some, Xtd, Xm4, XlU]
 rfl
theorem Xot (a : Ms) : nM (Xcz (nM a)) = nM (Xcz a) := by
 have hf := Xor 22 a.Filter
 have hm := XjA (Sl.l a.Mods)
 have hO : (nM a).Op = a.Op := rfl
 unfold Xcz
 rw [hO]
 by_cases h1 : a.Op = 1
 ·rw [if_pos h1, if_pos h1]; rfl
 rw [if_neg h1, if_neg h1]
 by_cases h3 : a.Op = 3
 ·rw [if_pos h3, if_pos h3]; simp only [nM, Sl.l_some, hf]
 rw [if_neg h3, if_neg h3]
 by_cases h4 : a.Op = 4 ∨ a.Op = 5 ∨ a.Op = 10
 ·rw [if_pos h4, if_pos h4]; simp only [nM, Sl.l_some, hm]
 rw [if_neg h4, if_neg h4]
 rfl
theorem Xm5 (a : Ms) : Few (nM a) ↔ Few a := by
 constructor
 ·intro h
  refine ⟨h.dn, h.pass, h.rdn, h.sup, h.attr, h.value, h.matched, h.wants, h.want, ?_, ?_, (Xi0 22 _).1 h.filter⟩
  ·have := h.mods
   simpa only [nM, Sl.l_some, List.length_map] using this
  ·intro m hm
   have := h.mod (Xjb m) (by simp only [nM, Sl.l_some]; exact List.mem_map_of_mem hm)
   exact this
 ·intro h
  refine ⟨h.dn, h.pass, h.rdn, h.sup, h.attr, h.value, h.matched, h.wants, h.want, ?_, ?_, (Xi0 22 _).2 h.filter⟩
  ·simpa only [nM, Sl.l_some, List.length_map] using h.mods
  ·intro m hm
   simp only [nM, Sl.l_some, List.mem_map] at hm
   obtain ⟨x, hx, rfl⟩ := hm
   exact h.mod x hx
theorem Xm6 {a : Ms} (ha : Few a) : isM (nM a) = isM a := by
 have h1 : XdX (nM a) (Xcz (nM a)) = XdX a (Xcz a) := by
  rw [Bool.eq_iff_iff, Xf2 ((Xi0 22 _).2 ha.filter), Xf2 ha.filter, Xwl, Xot]
 unfold isM
 rw [h1, Xte]
 rfl
theorem Xtf {a b : Ms} (ha : Few a) (h : nM a = nM b) : Few b ∧ isM b = isM a ∧ XeB b = XeB a := by
 have hb : Few b := (Xm5 b).1 (by rw [← h]; exact (Xm5 a).2 ha)
 exact ⟨hb, by rw [← Xm6 hb, ← h, Xm6 ha], by rw [← XkX b, ← h, XkX a]⟩
def zel : El := ⟨0, [], none⟩
def be (z : Int) (c : UInt8) : Int := 256 * z + c.toNat
def hd : Str → Int × Int × Int
 | [] => (0, 0, 10)
 | [a] => if Xej .u8 a.toNat 31 = 31 then (0, 0, 14) else (0, 0, 10)
 | a :: b :: r =>
  if Xej .u8 a.toNat 31 = 31 then (0, 0, 14)
  else if b.toNat < 128 then (2, b.toNat, 0)
  else if b.toNat = 128 ∨ 132 < b.toNat then (0, 0, 11)
  else if r.length < b.toNat - 128 then (0, 0, 10)
  else if 4000 < (r.take (b.toNat - 128)).foldl be 0 then (0, 0, 13)
  else (2 + ((b.toNat - 128 : Nat) : Int), (r.take (b.toNat - 128)).foldl be 0, 0)
theorem XjB : ∀ (l : Str) (z : Int) (k : Nat), 0 ≤ z → z < 256 ^ k → 0 ≤ l.foldl be z ∧ l.foldl be z < 256 ^ (k + l.length)
 | [], z, k, h0, h1 => ⟨h0, h1⟩
 | b :: l, z, k, h0, h1 => by
  have hb := b.toNat_lt
  have := XjB l (be z b) (k + 1) (by unfold be; omega) (by unfold be; rw [Int.pow_succ]; omega)
  simp only [List.foldl_cons, List.length_cons]
  rw [show k + (l.length + 1) = k + 1 + l.length by omega]
  exact this
theorem Xjc {k : Nat} (h : k ≤ 4) : (256 : Int) ^ k ≤ 4294967296 := by
 have : k = 0 ∨ k = 1 ∨ k = 2 ∨ k = 3 ∨ k = 4 := by omega
 rcases this with rfl | rfl | rfl | rfl | rfl <;> decide
theorem Xtg (k : Nat) (a b : UInt8) (r : Str) (n : Nat) (hn : n ≤ 4) (hr : n ≤ r.length) : ∀ (j fuel i : Nat) (z : Int), i + j = n → j < fuel → 0 ≤ z → z < 256 ^ i →
  Xem k (a :: b :: r) n fuel z i = some (((r.take n).drop i).foldl be z, (n : Int))
 | j, 0, i, z, _, hf, _, _ => by omega
 | 0, fuel + 1, i, z, hi, _, _, _ => by
  obtain rfl : i = n := by omega
  rw [Xem]
  simp
 | j + 1, fuel + 1, i, z, hi, hf, h0, h1 => by
  have hlt : i < r.length := by omega
  have hp := Xjc (k := i) (by omega)
  have hc := (r[i]).toNat_lt
  have e1 : ad .i64 2 (i : Int) = ((2 + i : Nat) : Int) := by rw [XeC (by omega)]; omega
  have e2 : Str.at? (a :: b :: r) ((2 + i : Nat) : Int) = some (((r[i]).toNat : Nat) : Int) := by
   rw [Str.at?_nat, show 2 + i = i + 1 + 1 by omega]
   simp [List.getElem?_eq_getElem hlt]
  have e3 : ad .i64 (ml .i64 256 z) (cv .i64 ((r[i]).toNat : Int)) = be z r[i] := by
   rw [XmH (by omega), ml64 (by omega), XeC (by omega)]; rfl
  have ih := Xtg k a b r n hn hr j fuel (i + 1) (be z r[i]) (by omega) (by omega) (by unfold be; omega) (by unfold be; rw [Int.pow_succ]; omega)
  have e4 : (r.take n).drop i = r[i] :: (r.take n).drop (i + 1) := by
   rw [List.drop_eq_getElem_cons (by rw [List.length_take]; omega), List.getElem_take]
  rw [Xem]
  rw [if_pos (by simp; omega), e1, e2]
  simp only [Option.bind_some]
  rw [e3, XaK (by omega), ih, e4]
  rfl
theorem Xwm (k : Nat) (q : Int) (l : Str) (hn : l.length ≤ 4) (n i : Nat) (z : Int) (hlt : i < l.length) (h0 : 0 ≤ z) (h1 : z < 256 ^ i) :
  Xds k q (Str.bytes l) (Sl.len (Str.bytes l)) (n + 1) z i = Xds k q (Str.bytes l) (Sl.len (Str.bytes l)) n (be z l[i]) ((i + 1 : Nat) : Int) := by
 have hp := Xjc (k := i) (by omega)
 have hc := (l[i]).toNat_lt
 have e2 : Sl.at? (Str.bytes l) (i : Int) = some (((l[i]).toNat : Nat) : Int) := by
  rw [Sl.at?_nat, Str.bytes_l]
  simp [List.getElem?_eq_getElem hlt]
 have e3 : bOr .i64 (256 * z) (cv .i64 ((l[i]).toNat : Int)) = be z l[i] := by
  rw [XmH (by omega), Xih (by omega) (by omega)]; rfl
 have e4 : Xlm .i64 z 8 = some (256 * z) := Xk9 (by omega)
 have e5 : decide ((i : Int) < Sl.len (Str.bytes l)) = true := by simp [Sl.len, Str.bytes, Sl.l]; omega
 have e6 : ad .i64 (i : Int) 1 = ((i + 1 : Nat) : Int) := XaK (by omega)
 rw [Xds, if_pos e5, bnd e2, bnd e4, e3, e6]
theorem Xwn (k : Nat) (q : Int) (l : Str) (hn : l.length ≤ 4) : ∀ (j fuel i : Nat) (z : Int), i + j = l.length → j < fuel → 0 ≤ z → z < 256 ^ i →
  Xds k q (Str.bytes l) (Sl.len (Str.bytes l)) fuel z i = some ((l.drop i).foldl be z, (l.length : Int)) := by
 intro j
 induction j with
 | zero =>
  intro fuel i z hi hf _ _
  obtain ⟨f, rfl⟩ : ∃ f, fuel = f + 1 := ⟨fuel - 1, by omega⟩
  obtain rfl : i = l.length := by omega
  rw [Xds, if_neg (by simp [Sl.len, Str.bytes, Sl.l])]
  simp
 | succ j ih =>
  intro fuel i z hi hf h0 h1
  obtain ⟨f, rfl⟩ : ∃ f, fuel = f + 1 := ⟨fuel - 1, by omega⟩
  have hlt : i < l.length := by omega
  have hc := (l[i]).toNat_lt
  rw [Xwm k q l hn f i z hlt h0 h1, ih f (i + 1) (be z l[i]) (by omega) (by omega) (by unfold be; omega) (by unfold be; rw [Int.pow_succ]; omega), List.drop_eq_getElem_cons hlt, List.foldl_cons]
theorem Xth (k : Nat) (hk : 6 ≤ k) (s : Str) (hs : s.length < 4294967296) : XoF k s = some (hd s) := by
 match s with
 | [] => rfl
 | [a] =>
  unfold XoF
  have e0 : Str.at? [a] 0 = some (a.toNat : Int) := rfl
  have l0 : (Str.len [a] == 0) = false := rfl
  have l1 : (Str.len [a] == 1) = true := rfl
  simp only [l0, l1, e0, Option.bind_some, Bool.false_eq_true, if_false, if_true, hd, beq_iff_eq]
  split <;> rfl
 | a :: b :: r =>
  unfold XoF
  have e0 : Str.at? (a :: b :: r) 0 = some (a.toNat : Int) := rfl
  have e1 : Str.at? (a :: b :: r) 1 = some (b.toNat : Int) := rfl
  have l0 : (Str.len (a :: b :: r) == 0) = false := by simp [Str.len]; omega
  have l1 : (Str.len (a :: b :: r) == 1) = false := by simp [Str.len]; omega
  have hb := b.toNat_lt
  simp only [l0, l1, e0, e1, Option.bind_some, Bool.false_eq_true, if_false, hd, beq_iff_eq, decide_eq_true_eq]
  rw [XmH (by omega), Xk8 (by omega)]
  split
  ·rfl
  by_cases h2 : b.toNat < 128
  ·rw [if_pos (by omega), if_pos h2]
  rw [if_neg (by omega), if_neg h2]
  by_cases h3 : b.toNat = 128 ∨ 132 < b.toNat
  ·rw [if_pos h3, if_pos (by simp; omega)]
  rw [if_neg h3, if_neg (by simp; omega)]
  obtain ⟨n, hn⟩ : ∃ n, n = b.toNat - 128 := ⟨_, rfl⟩
  have hn' : (b.toNat : Int) - 128 = n := by omega
  simp only [← hn, hn']
  have hlen : Str.len (a :: b :: r) = ((r.length + 2 : Nat) : Int) := rfl
  rw [XeC (by omega), hlen]
  by_cases h4 : r.length < n
  ·rw [if_pos (by omega), if_pos h4]
  rw [if_neg (by omega), if_neg h4]
  have := Xtg k a b r n (by omega) (by omega) n k 0 0 (by omega) (by omega) (by omega) (by decide)
  rw [show ((0 : Nat) : Int) = 0 from rfl] at this
  rw [this]
  simp only [Option.bind_some, List.drop_zero]
  by_cases h5 : 4000 < (r.take n).foldl be 0
  ·rw [if_pos h5, if_pos h5]
  ·rw [if_neg h5, if_neg h5]
theorem Xm7 (k : Nat) (hk : 6 ≤ k) (s : Str) (hs : s.length < 4294967296) : XoE k s = some (hd s) := by
 match s with
 | [] => rfl
 | [a] =>
  unfold XoE
  have e0 : Str.at? [a] 0 = some (a.toNat : Int) := rfl
  have l0 : ([a] == ([] : Str)) = false := rfl
  have l1 : (Str.len [a] == 1) = true := rfl
  simp only [l0, l1, e0, Option.bind_some, Bool.false_eq_true, if_false, if_true, hd, beq_iff_eq]
  split <;> rfl
 | a :: b :: r =>
  unfold XoE
  have e0 : Str.at? (a :: b :: r) 0 = some (a.toNat : Int) := rfl
  have e1 : Str.at? (a :: b :: r) 1 = some (b.toNat : Int) := rfl
  have l0 : ((a :: b :: r) == ([] : Str)) = false := rfl
  have l1 : (Str.len (a :: b :: r) == 1) = false := by simp [Str.len]; omega
  have hb := b.toNat_lt
  simp only [l0, l1, e0, e1, Option.bind_some, Bool.false_eq_true, if_false, hd, beq_iff_eq, decide_eq_true_eq]
  rw [XmH (by omega), Xk8 (by omega)]
  split
  ·rfl
  by_cases h2 : b.toNat < 128
  ·rw [if_neg (by simp; omega), if_neg (by omega), if_pos h2]
   simp only [Option.bind_some]
   rw [if_neg (by omega), XeC (by omega)]
   rfl
  rw [if_neg h2]
  by_cases h3 : b.toNat = 128 ∨ 132 < b.toNat
  ·rw [if_pos h3, if_pos (by simp; omega)]
   rfl
  rw [if_neg h3, if_neg (by simp; omega), if_pos (by omega)]
  obtain ⟨n, hn⟩ : ∃ n, n = b.toNat - 128 := ⟨_, rfl⟩
  have hn' : (b.toNat : Int) - 128 = n := by omega
  simp only [← hn, hn']
  have hlen : Str.len (a :: b :: r) = ((r.length + 2 : Nat) : Int) := rfl
  have e2 : ad .i64 2 (n : Int) = ((2 + n : Nat) : Int) := by rw [XeC (by omega)]; omega
  rw [e2, hlen]
  by_cases h4 : r.length < n
  ·rw [if_pos (by omega), if_pos h4]
   rfl
  rw [if_neg (by omega), if_neg h4]
  have e3 : Str.sub? (a :: b :: r) 2 ((2 + n : Nat) : Int) = some (r.take n) := by
   have := Str.sub?_nat (s := a :: b :: r) (l := 2) (h := 2 + n) (by omega) (by simp; omega)
   rw [show ((2 : Nat) : Int) = 2 from rfl] at this
   rw [this, show 2 + n = n + 1 + 1 by omega]
   rfl
  rw [e3]
  simp only [Option.bind_some]
  have hl : (r.take n).length = n := by rw [List.length_take]; omega
  have := Xwn k n (r.take n) (by omega) n k 0 0 (by omega) (by omega) (by omega) (by decide)
  rw [show ((0 : Nat) : Int) = 0 from rfl] at this
  rw [this]
  simp only [Option.bind_some, List.drop_zero]
  by_cases h5 : 4000 < (r.take n).foldl be 0
  ·rw [if_pos h5, if_pos h5]
  ·rw [if_neg h5, if_neg h5]
   simp only [Option.some.injEq, Prod.mk.injEq, and_true]
   omega
def Xh7 {α β : Type} (P : α → β → Prop) : List α → List β → Prop
 | [], [] => True
 | a :: l, b :: r => P a b ∧ Xh7 P l r
 | _, _ => False
theorem Xh7.len {α β : Type} {P : α → β → Prop} : ∀ {l : List α} {r : List β}, Xh7 P l r → l.length = r.length
 | [], [], _ => rfl
 | a :: l, b :: r, h => by simp [Xh7.len h.2]
theorem Xh7.get {α β : Type} {P : α → β → Prop} : ∀ {l : List α} {r : List β}, Xh7 P l r → ∀ (i : Nat) (h1 : i < l.length) (h2 : i < r.length), P l[i] r[i]
 | a :: l, b :: r, h, 0, _, _ => h.1
 | a :: l, b :: r, h, i + 1, h1, h2 => by
  simp only [List.getElem_cons_succ]
  exact Xh7.get h.2 i _ _
def Eqv : Nat → El → El → Prop
 | 0, _, _ => False
 | n + 1, e, f => e.Tag = f.Tag ∧ e.Body = f.Body ∧ Xh7 (Eqv n) (Sl.l e.Kids) (Sl.l f.Kids)
def XhG : Nat → El → Prop
 | 0, _ => False
 | n + 1, e => (Lit.int .u8 e.Tag).wf = true ∧ ∀ x ∈ Sl.l e.Kids, XhG n x
theorem Xti {f : El → Option Str} (l : List El) : ∀ acc : Str, cat f acc l = (cat f [] l).map (acc ++ ·) := by
 induction l with
 | nil => intro acc; simp [cat]
 | cons x l ih =>
  intro acc
  simp only [cat]
  cases f x with
  | none => rfl
  | some c =>
   simp only
   rw [ih (acc ++ c), ih ([] ++ c), Option.map_map]
   congr 1
   funext r
   simp
theorem Xou {f : El → Option Str} (l : List El) (acc b : Str) (h : cat f acc l = some b) : ∃ r, b = acc ++ r ∧ cat f [] l = some r := by
 rw [Xti] at h
 cases hc : cat f [] l with
 | none => rw [hc] at h; cases h
 | some r => rw [hc] at h; injection h with h; exact ⟨r, h.symm, rfl⟩
theorem Xf3 {t : Int} (h : (Lit.int .u8 t).wf = true) : ((UInt8.ofNat t.toNat).toNat : Int) = t := by
 have hb : 0 ≤ t ∧ t ≤ 255 := by simpa [Lit.wf, IntKind.min, IntKind.max, IntKind.signed, IntKind.bits] using h
 rw [UInt8.toNat_ofNat']
 omega
theorem XkY (n : Nat) (h : n < 256) : (UInt8.ofNat n).toNat = n := by rw [UInt8.toNat_ofNat']; omega
theorem XlV {t : Int} (ht : (Lit.int .u8 t).wf = true) (h31 : Xej .u8 t 31 ≠ 31) (n : Nat) (hn : n ≤ 4000) (r : Str) :
  hd (UInt8.ofNat t.toNat :: (XhF n ++ r)) = (((1 + (XhF n).length : Nat) : Int), (n : Int), 0) := by
 unfold XhF
 split
 ·simp only [List.cons_append, List.nil_append, hd, Xf3 ht, List.length_singleton]
  rw [if_neg h31, XkY n (by omega), if_pos (by omega)]
  rfl
 ·split
  ·simp only [List.cons_append, List.nil_append, hd, Xf3 ht]
   rw [if_neg h31, show (129 : UInt8).toNat = 129 from rfl, if_neg (by omega), if_neg (by omega), if_neg (by simp), if_neg]
   ·simp only [List.take_succ_cons, List.take_zero, List.foldl_cons, List.foldl_nil, be, XkY n (by omega)]
    simp
   ·simp only [List.take_succ_cons, List.take_zero, List.foldl_cons, List.foldl_nil, be, XkY n (by omega)]
    omega
  ·simp only [List.cons_append, List.nil_append, hd, Xf3 ht]
   have hlo : (UInt8.ofNat n).toNat = n % 256 := by rw [UInt8.toNat_ofNat']
   rw [if_neg h31, show (130 : UInt8).toNat = 130 from rfl, if_neg (by omega), if_neg (by omega), if_neg (by simp), if_neg]
   ·simp only [List.take_succ_cons, List.take_zero, List.foldl_cons, List.foldl_nil, be, XkY (n / 256) (by omega), hlo]
    simp only [Prod.mk.injEq, and_true]
    constructor
    ·simp
    ·omega
   ·simp only [List.take_succ_cons, List.take_zero, List.foldl_cons, List.foldl_nil, be, XkY (n / 256) (by omega), hlo]
    omega
def RB (m k : Nat) (e : El) : Prop := ∀ (j : Nat) (b s post : Str) (fr en : Nat) (d at0 : Int), Dpt j e → 1 ≤ d → d + j ≤ 21 → XaY m e = some b → s.drop fr = b ++ post → fr + b.length ≤ en → en ≤ s.length → s.length ≤ 6000 →
 ∃ (at1 : Int) (e' : El), F93 k ⟨s, at0⟩ fr en d = some (⟨s, at1⟩, e', ((fr + b.length : Nat) : Int), 0) ∧ Eqv m e e'
theorem XkZ (m k : Nat) (hk : 40 ≤ k) (d : Int) (hd : 1 ≤ d ∧ d ≤ 20) (j : Nat) (hdj : d + 1 + j ≤ 21) (s : Str) (hs : s.length ≤ 6000) (sz p0 stop : Nat) (hst : p0 + sz = stop) (hstop : stop ≤ s.length) (w : El) (t : Int) :
  ∀ (l : List El), (∀ x ∈ l, RB m k x ∧ Dpt j x) → ∀ (r post : Str) (p fuel : Nat) (acc : Sl El) (at1 : Int), cat (XaY m) [] l = some r → s.drop p = r ++ post → p + r.length = stop → l.length < fuel → acc.l.length + l.length ≤ 5000 →
  ∃ (at' : Int) (acc' : Sl El) (ys : List El), acc'.l = acc.l ++ ys ∧ Xh7 (Eqv m) l ys ∧ XdF (F93 k) k d sz p0 w fuel p ⟨t, [], acc⟩ ⟨s, at1⟩ = some (.brk ((stop : Int), ⟨t, [], acc'⟩, ⟨s, at'⟩)) := by
 intro l
 have e1 : ad .i64 (p0 : Int) (sz : Int) = (stop : Int) := by rw [XeC (by omega)]; omega
 have e3 : ad .i64 d 1 = d + 1 := XeC (by omega)
 induction l with
 | nil =>
  intro hl r post p fuel acc at1 hc hsd hp hf ha
  obtain ⟨f, rfl⟩ : ∃ f, fuel = f + 1 := ⟨fuel - 1, by omega⟩
  injection hc with hc; subst hc
  simp only [List.length_nil, Nat.add_zero] at hp
  subst hp
  exact ⟨at1, acc, [], by simp, trivial, by rw [XdF, e1, if_neg (by simp)]⟩
 | cons x l ih =>
  intro hl r post p fuel acc at1 hc hsd hp hf ha
  obtain ⟨f, rfl⟩ : ∃ f, fuel = f + 1 := ⟨fuel - 1, by omega⟩
  simp only [cat] at hc
  cases hb : XaY m x with
  | none => rw [hb] at hc; cases hc
  | some b =>
   rw [hb] at hc
   simp only at hc
   obtain ⟨r', hr, hc'⟩ := Xou l _ _ hc
   have hr : r = b ++ r' := by simpa using hr
   subst hr
   have hbl := XdS hb
   simp only [List.length_append] at hp
   obtain ⟨at2, x', g1, g2⟩ := (hl x List.mem_cons_self).1 j b s (r' ++ post) p stop (d + 1) at1 (hl x List.mem_cons_self).2 (by omega) (by omega) hb (by rw [hsd, List.append_assoc]) (by omega) hstop hs
   obtain ⟨z, hz, hzl⟩ := Sl.app?_l (bytes := 48) (x := acc) (ys := [x']) (by simp only [List.length_singleton]; omega)
   have hsd' : s.drop (p + b.length) = r' ++ post := by rw [← List.drop_drop, hsd, List.append_assoc, List.drop_left]
   obtain ⟨at3, acc3, ys, h1, h2, h3⟩ := ih (fun y hy => hl y (List.mem_cons_of_mem _ hy)) r' post (p + b.length) f z at2 hc' hsd' (by omega) (by simp at hf; omega) (by rw [hzl]; simp at ha ⊢; omega)
   refine ⟨at3, acc3, x' :: ys, by rw [h1, hzl]; simp, ⟨g2, h2⟩, ?_⟩
   rw [XdF, e1, e3, if_pos (by simp; omega), bnd g1, if_neg (by simp), Sl.l_some, bnd hz]
   exact h3
theorem Xtj : ∀ (m k : Nat), m + 40 ≤ k → ∀ e : El, XhG m e → Xkn m e → Fm m e → RB m k e
 | 0, k, hk, e, _, h, _ => h.elim
 | m + 1, k, hk, e, ho, h, hf => by
  obtain ⟨k, rfl⟩ : ∃ j, k = j + 1 := ⟨k - 1, by omega⟩
  intro j b s post fr en d at0 hD hd1 hdj hb hs he hen hs6
  obtain ⟨j, rfl⟩ : ∃ j', j = j' + 1 := by
   cases j with
   | zero => exact hD.elim
   | succ j => exact ⟨j, rfl⟩
  obtain ⟨f1, f2, f3⟩ := hf
  simp only [XaY] at hb
  cases hc : cat (XaY m) e.Body (Sl.l e.Kids) with
  | none => rw [hc] at hb; cases hb
  | some B =>
   rw [hc] at hb
   simp only at hb
   have hl : B.length ≤ 4000 := Classical.byContradiction fun hn => by rw [if_neg hn] at hb; cases hb
   rw [if_pos hl] at hb
   injection hb with hb
   obtain ⟨L, hL⟩ : ∃ L, L = (XhF B.length).length := ⟨_, rfl⟩
   have hL3 := Xdu B.length
   have hbl : b.length = 1 + L + B.length := by rw [← hb, hL]; simp; omega
   obtain ⟨sub, hsub⟩ : ∃ sub, sub = (s.take en).drop fr := ⟨_, rfl⟩
   have hsub2 : sub = UInt8.ofNat e.Tag.toNat :: (XhF B.length ++ (B ++ post.take (en - fr - b.length))) := by
    rw [hsub, List.drop_take, hs, List.take_append, List.take_of_length_le (by omega), ← hb]
    simp
   have hhd : hd sub = (((1 + L : Nat) : Int), (B.length : Int), 0) := by rw [hsub2, XlV ho.1 f1 B.length hl, hL]
   have hsl : sub.length ≤ 6000 := by rw [hsub, List.length_drop, List.length_take]; omega
   have e1 : Str.sub? s (fr : Int) (en : Int) = some sub := by rw [Str.sub?_nat (by omega) hen, hsub]
   have e2 := Xm7 k (by omega) sub (by omega)
   rw [hhd] at e2
   have hd20 : decide (d > 20) = false := by simp; omega
   have a0 : sb .i64 (en : Int) fr = (en : Int) - fr := Xk8 (by omega)
   have a1 : sb .i64 (sb .i64 (en : Int) fr) ((1 + L : Nat) : Int) = (en : Int) - fr - ((1 + L : Nat) : Int) := by rw [a0, Xk8 (by omega)]
   have a2 : ad .i64 (fr : Int) ((1 + L : Nat) : Int) = ((fr + (1 + L) : Nat) : Int) := by rw [XeC (by omega)]; omega
   have a3 : ad .i64 ((fr + (1 + L) : Nat) : Int) (B.length : Int) = ((fr + b.length : Nat) : Int) := by rw [XeC (by omega)]; omega
   have c1 : decide ((B.length : Int) > (en : Int) - fr - ((1 + L : Nat) : Int)) = false := by simp; omega
   have hfr : s[fr]? = some (UInt8.ofNat e.Tag.toNat) := by
    have h0 : (s.drop fr)[0]? = s[fr + 0]? := List.getElem?_drop
    rw [hs, ← hb] at h0
    exact h0.symm
   have e5 : Str.at? s (fr : Int) = some e.Tag := by rw [Str.at?_nat, hfr]; simp only [Option.map_some]; rw [Xf3 ho.1]
   have hdrop : s.drop (fr + (1 + L)) = B ++ post := by
    rw [← List.drop_drop, hs, ← hb, hL]
    rw [show 1 + (XhF B.length).length = (XhF B.length).length + 1 by omega]
    simp
   rw [F93, XaC hd20, bnd e1, bnd e2]
   simp only [a1, a2, a3, c1]
   rw [bnd (show (if ((0 : Int) == 0 && false) = true then some (10 : Int) else some 0) = some 0 from rfl), bnd (show (if ((0 : Int) == 10 && decide (d > 1)) = true then some (11 : Int) else some 0) = some 0 from rfl), XaC (show ((0 : Int) != 0) = false from rfl), bnd e5]
   by_cases ht : Xej .u8 e.Tag 32 = 0
   ·have hk0 := f2 ht
    rw [hk0] at hc
    injection hc with hc
    have e6 : Str.sub? s ((fr + (1 + L) : Nat) : Int) ((fr + b.length : Nat) : Int) = some B := by
     rw [Str.sub?_nat (by omega) (by omega), List.drop_take, hdrop, show fr + b.length - (fr + (1 + L)) = B.length by omega, List.take_left']
     rfl
    rw [XaN (by simpa using ht), bnd e6]
    exact ⟨fr, ⟨e.Tag, B, none⟩, rfl, rfl, hc, by rw [hk0]; trivial⟩
   ·obtain ⟨hb0, hkids⟩ := f3 ht
    rw [hb0] at hc
    have := h.1
    obtain ⟨at', acc', ys, g1, g2, g3⟩ := XkZ m k (by omega) d ⟨hd1, by omega⟩ j (by omega) s hs6 B.length (fr + (1 + L)) (fr + b.length) (by omega) (by omega) ⟨0, [], none⟩ e.Tag (Sl.l e.Kids)
     (fun x hx => ⟨Xtj m k (by omega) x (ho.2 x hx) (h.2.2 x hx) (hkids x hx), hD x hx⟩) B post (fr + (1 + L)) k none fr hc hdrop (by omega) (by omega) (by have h0 : (Sl.l (none : Sl El)).length = 0 := rfl; omega)
    rw [XaC (by simpa using ht), bnd g3]
    refine ⟨at', ⟨e.Tag, [], acc'⟩, rfl, rfl, hb0, ?_⟩
    show Xh7 (Eqv m) (Sl.l e.Kids) acc'.l
    rw [g1]
    exact g2
theorem Xla (m k : Nat) (hk : m + 40 ≤ k) (e : El) (ho : XhG m e) (h : Xkn m e) (hf : Fm m e) (hd : Dpt 20 e) (b tail : Str) (hb : XaY m e = some b) (ht : tail.length ≤ 1000) :
  ∃ e' : El, F72 k (b ++ tail) = some (e', (b.length : Int), 0, 0) ∧ Eqv m e e' := by
 have hbl := XdS hb
 obtain ⟨at1, e', h1, h2⟩ := Xtj m k hk e ho h hf 20 b (b ++ tail) tail 0 (b ++ tail).length 1 0 hd (by omega) (by omega) hb (by simp) (by simp) (by omega) (by simp; omega)
 refine ⟨e', ?_, h2⟩
 unfold F72
 have h1 : F93 k ⟨b ++ tail, 0⟩ 0 (((b ++ tail).length : Nat) : Int) 1 = _ := h1
 rw [Str.len_nat, bnd h1, XaC (show ((0 : Int) != 0) = false from rfl)]
 simp
def row {α : Type} : List α → Sl α
 | [] => none
 | x :: l => some (x :: l)
theorem XeV {α : Type} (l : List α) : Sl.l (row l) = l := by cases l <;> rfl
theorem Xg3 {α : Type} {b : Nat} {acc : List α} {y : α} (hb : b ≤ 1000) (h : acc.length ≤ 200000) : Sl.app? b (row acc) (Sl.l (some [y])) = some (row (acc ++ [y])) := by
 have h2 : (acc.length + 1) * b ≤ 200001 * 1000 := Nat.mul_le_mul (by omega) hb
 rw [Sl.app?_ok (by simp [Sl.l]) (by rw [XeV]; simp only [Sl.l, Option.getD_some, List.length_singleton]; omega), XeV]
 cases acc <;> rfl
theorem XjC {α β : Type} (l : List α) (g : α → β) (Lf : Nat → Sl β → Int → Option (Sl β × Int))
  (h1 : ∀ (n i : Nat) (y : α) (acc : List β), l[i]? = some y → acc.length ≤ 200000 → Lf (n + 1) (row acc) (i : Int) = Lf n (row (acc ++ [g y])) ((i + 1 : Nat) : Int))
  (h2 : ∀ n acc, Lf (n + 1) acc ((l.length : Nat) : Int) = some (acc, ((l.length : Nat) : Int))) :
  ∀ (j n i : Nat) (acc : List β), i + j = l.length → j < n → acc.length + j ≤ 200000 → Lf n (row acc) (i : Int) = some (row (acc ++ (l.drop i).map g), ((l.length : Nat) : Int))
 | j, 0, i, _, _, h, _ => by omega
 | 0, n + 1, i, acc, hij, _, _ => by
  have : i = l.length := by omega
  subst this
  rw [h2, List.drop_eq_nil_of_le (Nat.le_refl _)]; simp
 | j + 1, n + 1, i, acc, hij, hn, ha => by
  have hi : i < l.length := by omega
  rw [h1 n i l[i] acc (List.getElem?_eq_getElem hi) (by omega), XjC l g Lf h1 h2 j n (i + 1) _ (by omega) (by omega) (by simp only [List.length_append, List.length_singleton]; omega), List.drop_eq_getElem_cons hi]
  simp only [List.map_cons, List.append_assoc, List.singleton_append]
theorem Xi1 {α β : Type} (l : List α) (g : α → β) (Lf : Nat → Sl β → Int → Option (Sl β × Int))
  (h1 : ∀ (n i : Nat) (y : α) (acc : List β), l[i]? = some y → acc.length ≤ 200000 → Lf (n + 1) (row acc) (i : Int) = Lf n (row (acc ++ [g y])) ((i + 1 : Nat) : Int))
  (h2 : ∀ n acc, Lf (n + 1) acc ((l.length : Nat) : Int) = some (acc, ((l.length : Nat) : Int))) {n : Nat} (hn : l.length < n) (hl : l.length ≤ 200000) :
  Lf n none 0 = some (row (l.map g), ((l.length : Nat) : Int)) := by
 have := XjC l g Lf h1 h2 l.length n 0 [] (by omega) hn (by simp only [List.length_nil]; omega)
 rw [List.drop_zero, List.nil_append] at this
 exact this
/-! Kids -/
def XbL (e : El) (i : Nat) : El := ((Sl.l e.Kids)[i]?).getD zel
theorem f94 (k : Nat) (e : El) (i : Nat) : F94 k e (i : Int) = some (XbL e i) := by
 unfold F94 XbL
 by_cases h : (Sl.l e.Kids).length ≤ i
 ·rw [if_pos (decide_eq_true (by simp only [Sl.len]; omega)), List.getElem?_eq_none h]; rfl
 ·have hi : i < (Sl.l e.Kids).length := by omega
  rw [if_neg (by simp [Sl.len]; omega), Sl.at?_nat, List.getElem?_eq_getElem hi]
  rfl
theorem XaJ {m : Nat} {e f : El} (h : Eqv (m + 1) e f) (i : Nat) (hi : i < (Sl.l e.Kids).length) : Eqv m (XbL e i) (XbL f i) := by
 have hn := h.2.2.len
 have := h.2.2.get i hi (by omega)
 unfold XbL
 rw [List.getElem?_eq_getElem hi, List.getElem?_eq_getElem (by omega)]
 exact this
theorem Xlb {m : Nat} {e f : El} (h : Eqv (m + 1) e f) : (Sl.l f.Kids).length = (Sl.l e.Kids).length := h.2.2.len.symm
theorem XaV : ∀ {m : Nat} {e f : El}, Eqv m e f → f.Body = e.Body
 | _ + 1, _, _, h => h.2.1.symm
theorem Xjd : ∀ {m : Nat} {e f : El}, Eqv m e f → f.Tag = e.Tag
 | _ + 1, _, _, h => h.1.symm
theorem XgX {m : Nat} : ∀ {l r : List El}, Xh7 (Eqv m) l r → r.map (·.Body) = l.map (·.Body)
 | [], [], _ => rfl
 | a :: l, b :: r, h => by simp only [List.map_cons, XaV h.1, XgX h.2]
/-! Rows of texts -/
theorem f97 {k : Nat} (e : El) (h : (Sl.l e.Kids).length < k) (h2 : (Sl.l e.Kids).length ≤ 200000) : F97 k e = some (row ((Sl.l e.Kids).map (·.Body))) := by
 have hL := Xi1 (Sl.l e.Kids) (·.Body) (Xgv k e.Kids (Sl.len e.Kids)) (by
  intro n i y acc hy ha
  have hi := XbP hy
  rw [Xgv, if_pos (decide_eq_true (by simp only [Sl.len]; omega)), bnd (Xbj hy), bnd (Xg3 (by omega) ha), XaK (by omega)]) (by
  intro n acc
  rw [Xgv, if_neg (by simp [Sl.len])]) h h2
 unfold F97
 rw [bnd hL]
/-! Numbers -/
theorem Xwo (k : Nat) (q : Str) (l : Str) (hn : l.length ≤ 5) : ∀ (j fuel i : Nat) (z : Int), i + j = l.length → j < fuel → 0 ≤ z → z < 256 ^ i →
  XcO k q (Str.bytes l) (Sl.len (Str.bytes l)) fuel z i = some ((l.drop i).foldl be z, (l.length : Int)) := by
 intro j
 induction j with
 | zero =>
  intro fuel i z hi hf _ _
  obtain ⟨f, rfl⟩ : ∃ f, fuel = f + 1 := ⟨fuel - 1, by omega⟩
  obtain rfl : i = l.length := by omega
  rw [XcO, if_neg (by simp [Sl.len, Str.bytes, Sl.l])]
  simp
 | succ j ih =>
  intro fuel i z hi hf h0 h1
  obtain ⟨f, rfl⟩ : ∃ f, fuel = f + 1 := ⟨fuel - 1, by omega⟩
  have hlt : i < l.length := by omega
  have hc := (l[i]).toNat_lt
  have hp := Xjc (k := i) (by omega)
  have e2 : Sl.at? (Str.bytes l) (i : Int) = some (((l[i]).toNat : Nat) : Int) := by
   rw [Sl.at?_nat, Str.bytes_l]
   simp [List.getElem?_eq_getElem hlt]
  have e3 : bOr .i64 (256 * z) (cv .i64 ((l[i]).toNat : Int)) = be z l[i] := by
   rw [XmH (by omega), Xih (by omega) (by omega)]; rfl
  have e4 : Xlm .i64 z 8 = some (256 * z) := Xk9 (by omega)
  have e5 : decide ((i : Int) < Sl.len (Str.bytes l)) = true := by simp [Sl.len, Str.bytes, Sl.l]; omega
  rw [XcO, if_pos e5, bnd e2, bnd e4, e3, XaK (by omega), ih f (i + 1) (be z l[i]) (by omega) (by omega) (by unfold be; omega) (by unfold be; rw [Int.pow_succ]; omega), List.drop_eq_getElem_cons hlt, List.foldl_cons]
theorem Xlc : ∀ (l : Str) (z : Int), l.foldl be z = z * 256 ^ l.length + l.foldl be 0
 | [], z => by simp
 | b :: l, z => by
  rw [List.foldl_cons, List.foldl_cons, Xlc l (be z b), Xlc l (be 0 b), List.length_cons, Int.pow_succ]
  unfold be
  rw [Int.add_mul, Int.add_mul]
  have : 256 * z * 256 ^ l.length = z * (256 ^ l.length * 256) := by ac_rfl
  omega
def Xm8 (l : List Int) : Int := (Str.of (some l)).foldl be 0
theorem Xi2 {x : Int} (h : 0 ≤ x ∧ x < 256) (l : List Int) : Xm8 (x :: l) = x * 256 ^ l.length + Xm8 l := by
 have e : ((UInt8.ofNat x.toNat).toNat : Int) = x := by rw [UInt8.toNat_ofNat']; omega
 have hl : (Str.of (some l)).length = l.length := by simp [Str.of, Sl.l]
 show ((UInt8.ofNat x.toNat) :: Str.of (some l)).foldl be 0 = _
 rw [List.foldl_cons, Xlc, hl]
 show be 0 _ * _ + Xm8 l = _
 unfold be
 rw [e, Int.mul_zero, Int.zero_add]
theorem Xm9 : ∀ (n : Nat) (z x : Int) (xs : List Int), 0 ≤ z → 2 * z < 256 ^ n → (n = 0 → x < 128) → 0 ≤ x → x < 256 →
  Xm8 (jb n z (x :: xs)) = z * 256 ^ (xs.length + 1) + Xm8 (x :: xs) ∧ ∃ y r, jb n z (x :: xs) = y :: r ∧ 0 ≤ y ∧ y < 128
 | 0, z, x, xs, h0, h1, h2, h3, h4 => by
  have hz : z = 0 := by rw [Int.pow_zero] at h1; omega
  subst hz
  exact ⟨by rw [jb]; omega, x, xs, by rw [jb], h3, h2 rfl⟩
 | n + 1, z, x, xs, h0, h1, h2, h3, h4 => by
  rw [XeU]
  split
  ·rename_i hc
   obtain ⟨rfl, hx⟩ := hc
   exact ⟨by omega, x, xs, rfl, h3, hx⟩
  ·have hp : 2 * (z / 256) < 256 ^ n := by rw [Int.pow_succ] at h1; omega
   obtain ⟨a, b⟩ := Xm9 n (z / 256) (z % 256) (x :: xs) (by omega) hp (by intro hn; subst hn; rw [Int.pow_zero] at hp; rw [Int.pow_succ, Int.pow_zero] at h1; omega) (by omega) (by omega)
   refine ⟨?_, b⟩
   rw [a, Xi2 (x := z % 256) (by omega), List.length_cons, Int.pow_succ 256 (xs.length + 1)]
   have e : z = 256 * (z / 256) + z % 256 := by omega
   generalize z / 256 = q at *
   generalize z % 256 = r at *
   subst e
   rw [Int.add_mul]
   have : 256 * q * 256 ^ (xs.length + 1) = q * (256 ^ (xs.length + 1) * 256) := by ac_rfl
   omega
theorem XlW {k : Nat} (hk : 20 ≤ k) {v : Int} (h : 0 ≤ v ∧ v ≤ 2147483647) : Xoi k (XgV v) = some (v, true) := by
 obtain ⟨a, y, r, hy, h0, h1⟩ := Xm9 4 (v / 256) (v % 256) [] (by omega) (by omega) (by omega) (by omega) (by omega)
 have hv : (XgV v).foldl be 0 = v := by
  have e1 : (XgV v).foldl be 0 = Xm8 (jb 4 (v / 256) [v % 256]) := rfl
  have e2 : Xm8 [v % 256] = v % 256 := by rw [Xi2 (by omega)]; simp [Xm8, Str.of, Sl.l]
  rw [e1, a, e2]
  simp only [List.length_nil, Nat.zero_add, Int.pow_one]
  omega
 have hl := Xj4 v
 have hI : XgV v = UInt8.ofNat y.toNat :: Str.of (some r) := by unfold XgV; rw [hy]; rfl
 have hat : Str.at? (XgV v) 0 = some y := by
  have : Str.at? (XgV v) ((0 : Nat) : Int) = some y := by
   rw [Str.at?_nat, hI]
   simp only [List.getElem?_cons_zero, Option.map_some, UInt8.toNat_ofNat']
   congr 1
   omega
  exact this
 have c1 : ((XgV v == []) || (decide ((Str.len (XgV v)) > 8))) = false := by
  rw [Bool.or_eq_false_iff]
  refine ⟨by rw [hI]; rfl, ?_⟩
  have : ¬ (Str.len (XgV v) > 8) := by rw [Str.len_nat]; omega
  exact decide_eq_false this
 have hb := XkR (y := y) (by omega)
 rw [show decide (128 ≤ y) = false by simp; omega] at hb
 have hL := Xwo k (XgV v) (XgV v) hl.1 (XgV v).length k 0 0 (by omega) (by omega) (by omega) (by decide)
 rw [show ((0 : Nat) : Int) = 0 from rfl, List.drop_zero, hv] at hL
 unfold Xoi
 rw [XaC c1, bnd hat, XaC hb, bnd rfl]
 simp only
 rw [bnd hL, bnd (XkS (by omega) h).1]
 simp
theorem f95 {k : Nat} (hk : 20 ≤ k) {m : Nat} {t v : Int} {e : El} (h : 0 ≤ v ∧ v ≤ 2147483647) (he : Eqv m (nm t v) e) : F95 k e = some v := by
 unfold F95
 rw [XaV he, show (nm t v).Body = XgV v from rfl, bnd (XlW hk h)]
 have c : ((!true) || decide (v < 0) || decide (v > 2147483647)) = false := by simp; omega
 simp only [c]
 rfl
theorem f100 (k : Nat) (b : Bool) : Xol k (if b = true then [255] else [0]) = some (b, true) := by cases b <;> rfl
theorem Xld {k m : Nat} {t : Int} {l : List Str} {e : El} (h : Eqv (m + 2) (ls t (XdT (l.map (tx 4)))) e) (hl : l.length ≤ 200) (hk : 300 ≤ k) : F97 k e = some (row l) := by
 have h1 : Xh7 (Eqv (m + 1)) (l.map (tx 4)) (Sl.l e.Kids) := by
  have := h.2.2
  rwa [show (ls t (XdT (l.map (tx 4)))).Kids = XdT (l.map (tx 4)) from rfl, XcV] at this
 have h2 := h1.len
 rw [List.length_map] at h2
 rw [f97 e (by omega) (by omega), XgX h1, List.map_map]
 congr 2
 exact List.map_id l
theorem Xtk {k m : Nat} {x : Xat} {y : El} (h : Eqv (m + 4) (Xfs x) y) (hl : (Sl.l x.Values).length ≤ 14) (hk : 300 ≤ k) : (XbL y 0).Body = x.Attr ∧ F97 k (XbL y 1) = some (row (Sl.l x.Values)) :=
 ⟨XaV (XaJ h 0 (by show 0 < 2; omega)), Xld (m := m + 1) (XaJ h 1 (by show 1 < 2; omega)) (by omega) hk⟩
def XoI (x : Xat) : Xat := ⟨x.Kind, x.Attr, row (Sl.l x.Values)⟩
theorem f99 {k : Nat} (hk : 300 ≤ k) {m : Nat} (chg : Bool) (l : List Xat) (hl : l.length ≤ 14) (hx : ∀ x ∈ l, XdJ x ∧ (1 ≤ x.Kind ∧ x.Kind ≤ 3) ∧ (chg = false → x.Kind = 1)) {e : El} (he : Eqv (m + 6) (XdK chg l) e) :
  F99 k e chg = some (row (l.map XoI)) := by
 have h1 : Xh7 (Eqv (m + 5)) (l.map (Xkp chg)) (Sl.l e.Kids) := by
  have := he.2.2
  rwa [show (XdK chg l).Kids = XdT (l.map (Xkp chg)) from rfl, XcV] at this
 have h2 := h1.len
 rw [List.length_map] at h2
 have hL := Xi1 l XoI (Xdi k chg e.Kids (Sl.len e.Kids)) (by
  intro n i x acc hy ha
  have hi := XbP hy
  have hi2 : i < (Sl.l e.Kids).length := by omega
  have hq : Eqv (m + 5) (Xkp chg x) (Sl.l e.Kids)[i] := by
   have := h1.get i (by rw [List.length_map]; exact hi) hi2
   rw [List.getElem_map] at this
   rwa [(List.getElem?_eq_some_iff.1 hy).2] at this
  have e1 : Sl.at? e.Kids (i : Int) = some (Sl.l e.Kids)[i] := by rw [Sl.at?_nat, List.getElem?_eq_getElem hi2]
  generalize (Sl.l e.Kids)[i] = y at hq e1
  obtain ⟨q1, q2, q3⟩ := hx x (XaQ hy)
  rw [Xdi, if_pos (decide_eq_true (by simp only [Sl.len]; omega)), bnd e1]
  have fin : ∀ (m' : Nat) (w : Xat) (z : El), w.Kind = x.Kind → Eqv (m' + 4) (Xfs x) z → (Option.bind (F94 k z 0) fun y182 =>
    Option.bind (F94 k z 1) fun y183 => Option.bind (F97 k y183) fun y184 => Option.bind (Sl.app? 48 (row acc) (Sl.l (some [(Xat.mk w.Kind y182.Body y184)]))) fun z186 =>
    Xdi k chg e.Kids (Sl.len e.Kids) n z186 (ad .i64 (i : Int) 1)) = Xdi k chg e.Kids (Sl.len e.Kids) n (row (acc ++ [XoI x])) ((i + 1 : Nat) : Int) := by
   intro m' w z hw hz
   obtain ⟨a1, a2⟩ := Xtk (k := k) hz (by have := q1.2.1; omega) hk
   rw [bnd (show F94 k z 0 = some (XbL z 0) from f94 k z 0), bnd (show F94 k z 1 = some (XbL z 1) from f94 k z 1), bnd a2, a1, hw, bnd (Xg3 (by omega) ha), XaK (by omega)]
   rfl
  cases chg
  ·rw [if_neg (by decide), bnd rfl]
   exact fin (m + 1) _ _ (q3 rfl).symm hq
  ·have hk0 : Eqv (m + 4) (nm 10 (x.Kind - 1)) (XbL y 0) := XaJ hq 0 (by show 0 < 2; omega)
   have hk1 : Eqv (m + 4) (Xfs x) (XbL y 1) := XaJ hq 1 (by show 1 < 2; omega)
   rw [if_pos rfl, bnd (show F94 k y 0 = some (XbL y 0) from f94 k y 0), bnd (f95 (by omega) (by omega) hk0), bnd (show F94 k y 1 = some (XbL y 1) from f94 k y 1), bnd rfl, XeC (by omega)]
   exact fin m _ _ (by show x.Kind - 1 + 1 = x.Kind; omega) hk1) (by
  intro n acc
  rw [Xdi, if_neg (by simp [Sl.len, h2])]) (n := k) (by omega) (by omega)
 unfold F99
 rw [bnd hL]
/-! Operations -/
theorem t96 (n : Nat) : F96 (n + 20) 96 = some (1, 0) := by kernel_rfl
theorem t66 (n : Nat) : F96 (n + 20) 66 = some (2, 0) := by kernel_rfl
theorem t99 (n : Nat) : F96 (n + 20) 99 = some (3, 0) := by kernel_rfl
theorem t102 (n : Nat) : F96 (n + 20) 102 = some (4, 0) := by kernel_rfl
theorem t104 (n : Nat) : F96 (n + 20) 104 = some (5, 0) := by kernel_rfl
theorem t74 (n : Nat) : F96 (n + 20) 74 = some (6, 0) := by kernel_rfl
theorem t108 (n : Nat) : F96 (n + 20) 108 = some (7, 0) := by kernel_rfl
theorem t110 (n : Nat) : F96 (n + 20) 110 = some (8, 0) := by kernel_rfl
theorem t100 (n : Nat) : F96 (n + 20) 100 = some (10, 0) := by kernel_rfl
theorem t97 (n : Nat) : F96 (n + 20) 97 = some (9, 1) := by kernel_rfl
theorem t101 (n : Nat) : F96 (n + 20) 101 = some (9, 3) := by kernel_rfl
theorem t103 (n : Nat) : F96 (n + 20) 103 = some (9, 4) := by kernel_rfl
theorem t105 (n : Nat) : F96 (n + 20) 105 = some (9, 5) := by kernel_rfl
theorem t107 (n : Nat) : F96 (n + 20) 107 = some (9, 6) := by kernel_rfl
theorem t109 (n : Nat) : F96 (n + 20) 109 = some (9, 7) := by kernel_rfl
theorem t111 (n : Nat) : F96 (n + 20) 111 = some (9, 8) := by kernel_rfl
theorem f96 {k : Nat} (hk : 20 ≤ k) {a : Ms} (h : Op a) : F96 k (opE a).Tag = some (a.Op, if a.Op = 9 then a.Of else 0) := by
 obtain ⟨n, rfl⟩ : ∃ n, k = n + 20 := ⟨k - 20, by omega⟩
 have ho := h.op
 by_cases h9 : a.Op = 9
 ·have ht : (opE a).Tag = XbC a := by unfold opE; rw [if_neg (by omega), if_neg (by omega)]; rfl
  rw [ht, h9, if_pos rfl]
  unfold XbC
  rw [if_pos h9]
  rcases (h.res h9).1 with e | e | e | e | e | e | e <;> rw [e]
  ·exact t97 n
  ·exact t101 n
  ·exact t103 n
  ·exact t105 n
  ·exact t107 n
  ·exact t109 n
  ·exact t111 n
 ·rw [if_neg h9]
  have : a.Op = 1 ∨ a.Op = 2 ∨ a.Op = 3 ∨ a.Op = 4 ∨ a.Op = 5 ∨ a.Op = 6 ∨ a.Op = 7 ∨ a.Op = 8 ∨ a.Op = 10 := by omega
  unfold opE XbC
  rcases this with e | e | e | e | e | e | e | e | e <;> rw [e]
  ·exact t96 n
  ·exact t66 n
  ·exact t99 n
  ·exact t102 n
  ·exact t104 n
  ·exact t74 n
  ·exact t108 n
  ·exact t110 n
  ·exact t100 n
/-! Xhc of a value -/
def Xd0 (i : Nat) (st : Str × List Str) (p : Int × Str) : Str × List Str := if p.1 = 128 ∧ i = 0 then (st.1, st.2.set 0 p.2) else if p.1 = 130 then (p.2, st.2) else (st.1, st.2 ++ [p.2])
def Xen : Nat → Str × List Str → List (Int × Str) → Str × List Str
 | _, st, [] => st
 | i, st, p :: r => Xen (i + 1) (Xd0 i st p) r
def pr (e : El) : Int × Str := (e.Tag, e.Body)
theorem XlX {i : Nat} {st : Str × List Str} {p : Int × Str} (h : st.2 ≠ []) : (Xd0 i st p).2 ≠ [] ∧ (Xd0 i st p).2.length ≤ st.2.length + 1 := by
 unfold Xd0
 split
 ·exact ⟨by simpa using h, by simp⟩
 ·split
  ·exact ⟨h, by simp⟩
  ·exact ⟨by simp, by simp⟩
theorem Xov (k : Nat) (K : Sl El) (hl : (Sl.l K).length ≤ 100000) : ∀ (j n i : Nat) (st : Str × List Str), i + j = (Sl.l K).length → j < n → st.2 ≠ [] → st.2.length + j ≤ 200000 →
  XcY k K (Sl.len K) n st.1 (i : Int) (some st.2) = some ((Xen i st (((Sl.l K).drop i).map pr)).1, (((Sl.l K).length : Nat) : Int), some (Xen i st (((Sl.l K).drop i).map pr)).2)
 | j, 0, i, st, _, h, _, _ => by omega
 | 0, n + 1, i, st, hij, _, _, _ => by
  have : i = (Sl.l K).length := by omega
  subst this
  rw [XcY, if_neg (by simp [Sl.len]), List.drop_eq_nil_of_le (Nat.le_refl _)]
  rfl
 | j + 1, n + 1, i, st, hij, hn, hs, hs2 => by
  have hi : i < (Sl.l K).length := by omega
  have e1 : Sl.at? K (i : Int) = some (Sl.l K)[i] := by rw [Sl.at?_nat, List.getElem?_eq_getElem hi]
  have ne := XlX (i := i) (p := pr (Sl.l K)[i]) hs
  have ih := Xov k K hl j n (i + 1) (Xd0 i st (pr (Sl.l K)[i])) (by omega) (by omega) ne.1 (by omega)
  rw [List.drop_eq_getElem_cons hi, List.map_cons, Xen, ← ih, XcY, if_pos (decide_eq_true (by simp only [Sl.len]; omega)), bnd e1]
  generalize (Sl.l K)[i] = y
  have hb : (Option.bind (if ((y.Tag == 128) && ((i : Int) == 0)) = true then Option.bind (Sl.at? (some st.2) 0) fun y701 => some (Sl.set (some st.2) 0 y.Body, st.1) else
    Option.bind (if (y.Tag == 130) = true then some ((some st.2 : Sl Str), y.Body) else Option.bind (Sl.app? 16 (some st.2) (Sl.l (some [y.Body]))) fun z715 => some (z715, st.1)) fun y712 => some (y712.1, y712.2)) fun y699 =>
    XcY k K (Sl.len K) n y699.2 (ad .i64 (i : Int) 1) y699.1) = XcY k K (Sl.len K) n (Xd0 i st (pr y)).1 ((i + 1 : Nat) : Int) (some (Xd0 i st (pr y)).2) := by
   rw [XaK (by omega)]
   unfold Xd0 pr
   by_cases c1 : y.Tag = 128 ∧ i = 0
   ·have c : ((y.Tag == 128) && ((i : Int) == 0)) = true := by simp only [Bool.and_eq_true, beq_iff_eq]; omega
    have e2 : Sl.at? (some st.2) 0 = some (st.2[0]'(by cases h : st.2 with | nil => exact absurd h hs | cons _ _ => simp)) := by
     have : Sl.at? (some st.2) ((0 : Nat) : Int) = _ := Sl.at?_nat _ _
     rw [show ((0 : Nat) : Int) = 0 from rfl] at this
     rw [this, Sl.l_some, List.getElem?_eq_getElem]
    rw [if_pos c1, XaN c, e2]
    rfl
   ·have c : ((y.Tag == 128) && ((i : Int) == 0)) = false := by
     rw [Bool.and_eq_false_iff]
     simp only [beq_eq_false_iff_ne]
     omega
    rw [if_neg c1, XaC c]
    by_cases c2 : y.Tag = 130
    ·rw [if_pos c2, XaN (by simpa using c2)]
     rfl
    ·rw [if_neg c2, XaC (by simpa using c2), Sl.app?_ok (by simp [Sl.l]) (by simp only [Sl.l_some, List.length_singleton]; omega)]
     rfl
  exact hb
theorem Xg4 {α : Type} {p : Nat → α → Bool} : ∀ {i : Nat} {l : List α}, XaP p i l = true → ∀ (q : Nat) (s : α), l[q]? = some s → p (i + q) s = true
 | i, x :: xs, h, 0, s, hq => by
  have h' : (p i x && XaP p (i + 1) xs) = true := h
  rw [Bool.and_eq_true] at h'
  simp only [List.getElem?_cons_zero, Option.some.injEq] at hq
  subst hq
  exact h'.1
 | i, x :: xs, h, q + 1, s, hq => by
  have h' : (p i x && XaP p (i + 1) xs) = true := h
  rw [Bool.and_eq_true] at h'
  have := Xg4 h'.2 q s (by simpa using hq)
  rwa [show i + 1 + q = i + (q + 1) by omega] at this
theorem Xh8 (m : Nat) : ∀ (l : List Str) (i j : Nat) (out : List Str), 1 ≤ i → i + l.length = m → l ≠ [] → (∀ (q : Nat) (s : Str), l[q]? = some s → q + 1 < l.length → s ≠ []) →
  ∃ y r, l = r ++ [y] ∧ Xen j ([], out) ((Xcl (XeA m) i l).map pr) = (y, out ++ r)
 | [], _, _, _, _, _, h, _ => absurd rfl h
 | [x], i, j, out, hi, hm, _, _ => by
  refine ⟨x, [], rfl, ?_⟩
  simp only [List.length_singleton] at hm
  rw [Xcl, Xcl, List.append_nil, List.append_nil]
  unfold XeA
  by_cases hx : x = []
  ·rw [if_pos hx, hx]; rfl
  ·rw [if_neg hx]
   have : Xkl m i = 130 := by unfold Xkl; rw [if_neg (by omega), if_pos hm]
   rw [this]
   rfl
 | x :: y :: r, i, j, out, hi, hm, _, hq => by
  have hx : x ≠ [] := hq 0 x rfl (by simp)
  simp only [List.length_cons] at hm
  have ht : Xkl m i = 129 := by unfold Xkl; rw [if_neg (by omega), if_neg (by omega)]
  obtain ⟨z, w, h1, h2⟩ := Xh8 m (y :: r) (i + 1) (j + 1) (out ++ [x]) (by omega) (by simp only [List.length_cons]; omega) (by simp) (fun q s h1 h2 => hq (q + 1) s (by simpa using h1) (by simp only [List.length_cons] at h2 ⊢; omega))
  refine ⟨z, x :: w, by rw [h1]; rfl, ?_⟩
  rw [Xcl, List.map_append]
  have : XeA m i x = [tx 129 x] := by unfold XeA; rw [if_neg hx, ht]
  rw [this]
  show Xen (j + 1) (Xd0 j ([], out) (129, x)) ((Xcl (XeA m) (i + 1) (y :: r)).map pr) = _
  have : Xd0 j ([], out) (129, x) = ([], out ++ [x]) := by unfold Xd0; rw [if_neg (by simp), if_neg (by simp)]
  rw [this, h2]
  simp
theorem Xle {m : Nat} : ∀ {l r : List El}, Xh7 (Eqv m) l r → r.map pr = l.map pr
 | [], [], _ => rfl
 | a :: l, b :: r, h => by
  have : pr b = pr a := by unfold pr; rw [XaV h.1, Xjd h.1]
  simp only [List.map_cons, this, Xle h.2]
theorem f110 {k m : Nat} (hk : 300 ≤ k) {l : List Str} (hl : XdI l = true) {e : El} {t : Int} (he : Eqv (m + 1) (ls t (XdT (Xcl (XeA l.length) 0 l))) e) : XlO k e = some (some l) := by
 unfold XdI at hl
 simp only [Bool.and_eq_true, decide_eq_true_eq] at hl
 obtain ⟨⟨⟨g1, g2⟩, _⟩, g3⟩ := hl
 have h1 : Xh7 (Eqv m) (Xcl (XeA l.length) 0 l) (Sl.l e.Kids) := by
  have := he.2.2
  rwa [show (ls t (XdT (Xcl (XeA l.length) 0 l))).Kids = XdT (Xcl (XeA l.length) 0 l) from rfl, XcV] at this
 have h2 := h1.len
 have h3 := Xg0 (fun i x => Xf0 l.length i x) 0 l
 have hL := Xov k e.Kids (by omega) (Sl.l e.Kids).length k 0 ([], [[]]) (by omega) (by omega) (by simp) (by simp only [List.length_singleton]; omega)
 rw [show ((0 : Nat) : Int) = 0 from rfl, List.drop_zero, Xle h1] at hL
 have hF : ∃ y r, l = r ++ [y] ∧ Xen 0 ([], [[]]) ((Xcl (XeA l.length) 0 l).map pr) = (y, r) := by
  cases l with
  | nil => simp at g1
  | cons x r =>
   simp only [List.length_cons] at g1
   have hq : ∀ (q : Nat) (s : Str), r[q]? = some s → q + 1 < r.length → s ≠ [] := by
    intro q s h4 h5 h6
    have := Xg4 g3 (q + 1) s (by simpa using h4)
    subst h6
    unfold XcU at this
    simp only [List.length_cons, Nat.zero_add, Bool.not_eq_true', Bool.or_eq_false_iff, Bool.and_eq_false_iff, decide_eq_false_iff_not] at this
    rcases this.2 with (h | h) | h
    ·simp at h
    ·omega
    ·omega
   have hr : r ≠ [] := by intro h; subst h; simp at g1
   by_cases hx : x = []
   ·obtain ⟨y, w, a1, a2⟩ := Xh8 (x :: r).length r 1 0 [[]] (by omega) (by simp only [List.length_cons]; omega) hr hq
    refine ⟨y, x :: w, by rw [a1]; rfl, ?_⟩
    rw [Xcl]
    have : XeA (x :: r).length 0 x = [] := by unfold XeA; rw [if_pos hx]
    rw [this, List.nil_append, Nat.zero_add, a2, hx]
    rfl
   ·obtain ⟨y, w, a1, a2⟩ := Xh8 (x :: r).length r 1 1 [x] (by omega) (by simp only [List.length_cons]; omega) hr hq
    refine ⟨y, x :: w, by rw [a1]; rfl, ?_⟩
    rw [Xcl]
    have : XeA (x :: r).length 0 x = [tx 128 x] := by unfold XeA; rw [if_neg hx]; rfl
    rw [this, List.map_append]
    show Xen (0 + 1) (Xd0 0 ([], [[]]) (128, x)) ((Xcl (XeA (x :: r).length) (0 + 1) r).map pr) = _
    have : Xd0 0 ([], [[]]) (128, x) = ([], [x]) := rfl
    rw [this, Nat.zero_add, a2]
    rfl
 obtain ⟨y, r, q1, q2⟩ := hF
 rw [q2] at hL
 unfold XlO
 have hr : r.length + 1 ≤ 30 := by have := congrArg List.length q1; simp at this; omega
 rw [bnd hL]
 simp only
 rw [Sl.app?_ok (by simp [Sl.l]) (by simp only [Sl.l_some, List.length_singleton]; omega)]
 rw [q1]
 rfl
theorem f98L (rc : El → Int → Option Fil) (k : Nat) (left : Int) (hleft : -100 ≤ left ∧ left ≤ 100) (K : Sl El) (f0 : Fil) (gs : List Fil) (hg : Xh7 (fun e g => rc e (left - 1) = some g) (Sl.l K) gs) (kd : Int) (at' vl : Str) (sb' : Sl Str) (hlK : (Sl.l K).length ≤ 200000) :
  ∀ (j n i : Nat) (acc : List Fil), i + j = (Sl.l K).length → j < n → acc.length + j ≤ 200000 →
  Xc6 rc k left K (Sl.len K) f0 n (i : Int) ⟨kd, at', vl, sb', row acc⟩ = some ((((Sl.l K).length : Nat) : Int), ⟨kd, at', vl, sb', row (acc ++ gs.drop i)⟩)
 | j, 0, i, acc, _, h, _ => by omega
 | 0, n + 1, i, acc, hij, _, _ => by
  have hl := hg.len
  have : i = (Sl.l K).length := by omega
  subst this
  rw [Xc6, if_neg (by simp [Sl.len]), List.drop_eq_nil_of_le (by omega), List.append_nil]
 | j + 1, n + 1, i, acc, hij, hn, ha => by
  have hl := hg.len
  have hi : i < (Sl.l K).length := by omega
  have e1 : Sl.at? K (i : Int) = some (Sl.l K)[i] := by rw [Sl.at?_nat, List.getElem?_eq_getElem hi]
  have e2 := hg.get i hi (by omega)
  have e3 : sb .i64 left 1 = left - 1 := Xk8 (by omega)
  rw [Xc6, if_pos (decide_eq_true (by simp only [Sl.len]; omega)), bnd e1, e3, bnd e2]
  simp only
  rw [bnd (Xg3 (by omega) (by omega)), XaK (by omega), f98L rc k left hleft K f0 gs hg kd at' vl sb' hlK j n (i + 1) _ (by omega) (by omega) (by simp only [List.length_append, List.length_singleton]; omega), List.drop_eq_getElem_cons (show i < gs.length by omega)]
  simp only [List.append_assoc, List.singleton_append]
theorem f98K {n k m j : Nat} {l : Int} (IH : ∀ g, isS n g = true → XcZ n g → ∀ e, Eqv m (elF n g) e → Dpt j (elF n g) → ∃ f', F98 k e l = some f' ∧ nF n f' = nF n g) : ∀ (fl : List Fil) (el : List El), (∀ g ∈ fl, isS n g = true ∧ XcZ n g ∧ Dpt j (elF n g)) →
  Xh7 (Eqv m) (fl.map (elF n)) el → ∃ gs, Xh7 (fun e g => F98 k e l = some g) el gs ∧ gs.map (nF n) = fl.map (nF n)
 | [], [], _, _ => ⟨[], trivial, rfl⟩
 | g :: fl, e :: el, h, h2 => by
  obtain ⟨q1, q2, q3⟩ := h g List.mem_cons_self
  obtain ⟨f', a1, a2⟩ := IH g q1 q2 e h2.1 q3
  obtain ⟨gs, b1, b2⟩ := f98K IH fl el (fun g hg => h g (List.mem_cons_of_mem _ hg)) h2.2
  exact ⟨f' :: gs, ⟨a1, b1⟩, by simp only [List.map_cons, a2, b2]⟩
 | [], e :: el, _, h2 => h2.elim
 | g :: fl, [], _, h2 => h2.elim
theorem XdV {α : Type} {x : Sl α} (h : (Sl.l x).length = 0) : Sl.l x = [] := List.eq_nil_of_length_eq_zero h
theorem f98 : ∀ (n : Nat) (f : Fil), isS n f = true → XcZ n f → ∀ (k m j : Nat) (left : Int) (e : El), Eqv m (elF n f) e → Dpt j (elF n f) → (j : Int) ≤ left → left ≤ 100 → n + 200100 ≤ k →
  ∃ f', F98 k e left = some f' ∧ nF n f' = nF n f
 | 0, f, h, _, _, _, _, _, _, _, _, _, _, _ => by simp [isS] at h
 | n + 1, f, h, hw, k, m, j, left, e, he, hd, hj, hl, hk => by
  obtain ⟨k, rfl⟩ : ∃ q, k = q + 1 := ⟨k - 1, by omega⟩
  obtain ⟨m, rfl⟩ : ∃ q, m = q + 1 := by cases m with
   | zero => exact he.elim
   | succ q => exact ⟨q, rfl⟩
  obtain ⟨j, rfl⟩ : ∃ q, j = q + 1 := by cases j with
   | zero => exact hd.elim
   | succ q => exact ⟨q, rfl⟩
  have hz : (left == 0) = false := by simp only [beq_eq_false_iff_ne]; omega
  have hT := Xjd he
  by_cases hK : XcC f.Kind = true
  ·rw [isS, if_pos hK] at h
   simp only [Bool.and_eq_true, beq_iff_eq, decide_eq_true_eq, List.all_eq_true] at h
   obtain ⟨⟨⟨⟨a1, a2⟩, a3⟩, a4⟩, a5⟩ := h
   have hel : elF (n + 1) f = ls (159 + f.Kind) (XdT ((Sl.l f.Kids).map (elF n))) := by rw [elF, if_pos hK]
   rw [hel] at he hd hT
   have hT : e.Tag = 159 + f.Kind := hT
   have h1 : Xh7 (Eqv m) ((Sl.l f.Kids).map (elF n)) (Sl.l e.Kids) := by
    have := he.2.2
    rwa [show (ls (159 + f.Kind) (XdT ((Sl.l f.Kids).map (elF n)))).Kids = XdT ((Sl.l f.Kids).map (elF n)) from rfl, XcV] at this
   have hlen := h1.len
   rw [List.length_map] at hlen
   have hd2 : ∀ g ∈ Sl.l f.Kids, Dpt j (elF n g) := fun g hg => hd _ (by
    show elF n g ∈ Sl.l (XdT ((Sl.l f.Kids).map (elF n)))
    rw [XcV]
    exact List.mem_map_of_mem hg)
   obtain ⟨gs, g1, g2⟩ := f98K (k := k) (m := m) (j := j) (l := left - 1) (fun g hg hgw e he hd => f98 n g hg hgw k m j (left - 1) e he hd (by omega) (by omega) (by omega)) (Sl.l f.Kids) (Sl.l e.Kids) (fun g hg => ⟨a5 g hg, hw.2.2.2.2.2 g hg, hd2 g hg⟩) h1
   have hw1 := hw.1
   have L := f98L (F98 k) k left (by omega) e.Kids ⟨0, [], [], none, none⟩ gs g1 f.Kind [] [] none (by omega) (Sl.l e.Kids).length k 0 [] (by omega) (by omega) (by simp only [List.length_nil]; omega)
   rw [show ((0 : Nat) : Int) = 0 from rfl, List.drop_zero, List.nil_append] at L
   have L : Xc6 (F98 k) k left e.Kids (Sl.len e.Kids) (Xae.mk 0 [] [] none none) k 0 (Xae.mk f.Kind [] [] none none) = some ((((Sl.l e.Kids).length : Nat) : Int), ⟨f.Kind, [], [], none, row gs⟩) := L
   refine ⟨⟨f.Kind, [], [], none, row gs⟩, ?_, ?_⟩
   ·have hk3 : f.Kind = 1 ∨ f.Kind = 2 ∨ f.Kind = 3 := by unfold XcC at hK; simp only [Bool.and_eq_true, decide_eq_true_eq] at hK; omega
    rw [F98, hT, hz]
    rcases hk3 with e1 | e1 | e1 <;> rw [e1] at L ⊢
    ·show Option.bind (Option.bind (Xc6 (F98 k) k left e.Kids (Sl.len e.Kids) (Xae.mk 0 [] [] none none) k 0 (Xae.mk 1 [] [] none none)) fun y646 => some y646.2) (fun y => some y) = _
     rw [bnd L]; rfl
    ·show Option.bind (Option.bind (Xc6 (F98 k) k left e.Kids (Sl.len e.Kids) (Xae.mk 0 [] [] none none) k 0 (Xae.mk 2 [] [] none none)) fun y646 => some y646.2) (fun y => some y) = _
     rw [bnd L]; rfl
    ·show Option.bind (Option.bind (Xc6 (F98 k) k left e.Kids (Sl.len e.Kids) (Xae.mk 0 [] [] none none) k 0 (Xae.mk 3 [] [] none none)) fun y646 => some y646.2) (fun y => some y) = _
     rw [bnd L]; rfl
   ·simp only [nF, XeV, g2, a1, a2, XdV a3]
    rfl
  ·rw [isS, if_neg hK] at h
   by_cases h7 : f.Kind = 7
   ·rw [if_pos h7] at h
    simp only [Bool.and_eq_true, beq_iff_eq, decide_eq_true_eq] at h
    obtain ⟨⟨⟨a1, a2⟩, a3⟩, a4⟩ := h
    have hel : elF (n + 1) f = tx 135 f.Attr := by rw [elF, if_neg hK, if_pos h7]
    rw [hel] at he hT
    have hT : e.Tag = 135 := hT
    refine ⟨⟨7, f.Attr, [], none, none⟩, ?_, ?_⟩
    ·rw [F98, hT, XaV he]; rfl
    ·simp only [nF, h7, a2, XdV a3, XdV a4]; rfl
   ·rw [if_neg h7] at h
    by_cases h8 : f.Kind = 8
    ·rw [if_pos h8] at h
     simp only [Bool.and_eq_true, beq_iff_eq, decide_eq_true_eq] at h
     obtain ⟨⟨⟨a1, a2⟩, a3⟩, a4⟩ := h
     have hel : elF (n + 1) f = ls 164 (some [tx 4 f.Attr, ls 48 (XdT (Xcl (XeA (Sl.l f.Subs).length) 0 (Sl.l f.Subs)))]) := by rw [elF, if_neg hK, if_neg h7, if_pos h8]
     rw [hel] at he hT
     have hT : e.Tag = 164 := hT
     have k0 := XaJ he 0 (by show 0 < 2; omega)
     have k1 := XaJ he 1 (by show 1 < 2; omega)
     have k1 : Eqv m (ls 48 (XdT (Xcl (XeA (Sl.l f.Subs).length) 0 (Sl.l f.Subs)))) (XbL e 1) := k1
     obtain ⟨m, rfl⟩ : ∃ q, m = q + 1 := by cases m with
      | zero => exact k1.elim
      | succ q => exact ⟨q, rfl⟩
     refine ⟨⟨8, f.Attr, [], some (Sl.l f.Subs), none⟩, ?_, ?_⟩
     ·rw [F98, hT, hz]
      show Option.bind (Option.bind (Option.bind (F94 k e 0) fun y666 => Option.bind (F94 k e 1) fun y667 => Option.bind (XlO k y667) fun y668 => some (Xae.mk 8 y666.Body [] y668 none)) fun y => some y) (fun y => some y) = _
      rw [bnd (show F94 k e 0 = some (XbL e 0) from f94 k e 0), bnd (show F94 k e 1 = some (XbL e 1) from f94 k e 1), bnd (f110 (by omega) a4 k1), XaV k0]
      rfl
     ·simp only [nF, h8, a2, XdV a3]; rfl
    ·rw [if_neg h8] at h
     by_cases h4 : f.Kind = 4 ∨ f.Kind = 5 ∨ f.Kind = 6
     ·rw [if_pos h4] at h
      simp only [Bool.and_eq_true, decide_eq_true_eq] at h
      obtain ⟨⟨⟨a1, a2⟩, a3⟩, a4⟩ := h
      have hel : elF (n + 1) f = ls (if f.Kind = 4 then 163 else if f.Kind = 5 then 165 else 166) (some [tx 4 f.Attr, tx 4 f.Value]) := by rw [elF, if_neg hK, if_neg h7, if_neg h8]
      rw [hel] at he hT
      have hT : e.Tag = (if f.Kind = 4 then 163 else if f.Kind = 5 then 165 else 166) := hT
      have k0 := XaJ he 0 (by show 0 < 2; omega)
      have k1 := XaJ he 1 (by show 1 < 2; omega)
      refine ⟨⟨f.Kind, f.Attr, f.Value, none, none⟩, ?_, ?_⟩
      ·have fin : ∀ q : Int, (Option.bind (Option.bind (Option.bind (F94 k e 0) fun y669 => Option.bind (F94 k e 1) fun y670 => some (Xae.mk q y669.Body y670.Body none none)) fun y => some y) fun y => some y) = some ⟨q, f.Attr, f.Value, none, none⟩ := by
        intro q
        rw [bnd (show F94 k e 0 = some (XbL e 0) from f94 k e 0), bnd (show F94 k e 1 = some (XbL e 1) from f94 k e 1), XaV k0, XaV k1]
        rfl
       rw [F98, hT, hz]
       rcases h4 with e1 | e1 | e1 <;> rw [e1]
       ·exact fin 4
       ·exact fin 5
       ·exact fin 6
      ·simp only [nF, XdV a3, XdV a4]; rfl
     ·rw [if_neg h4] at h; cases h
def XlY (k : Nat) (y : El) (id op of' : Int) : Option Ms :=
 if op = 1 then
  Option.bind (F94 k y 0) fun b0 => Option.bind (F95 k b0) fun v => Option.bind (F94 k y 1) fun b1 => Option.bind (F94 k y 2) fun b2 =>
  some ⟨id, op, of', b1.Body, v, b2.Body, 0, 0, noF, none, none, [], false, false, [], [], [], 0, []⟩
 else if op = 3 then
  Option.bind (F94 k y 0) fun b0 => Option.bind (F94 k y 1) fun b1 => Option.bind (F95 k b1) fun v => Option.bind (F94 k y 3) fun b3 => Option.bind (F95 k b3) fun w => Option.bind (F94 k y 7) fun b7 => Option.bind (F97 k b7) fun l =>
  Option.bind (F94 k y 6) fun b6 => Option.bind (F98 k b6 20) fun f => some ⟨id, op, of', b0.Body, 0, [], v, w, f, l, none, [], false, false, [], [], [], 0, []⟩
 else if op = 4 ∨ op = 5 ∨ op = 10 then
  Option.bind (F94 k y 0) fun b0 => Option.bind (F94 k y 1) fun b1 => Option.bind (F99 k b1 (op == 4)) fun l => some ⟨id, op, of', b0.Body, 0, [], 0, 0, noF, none, l, [], false, false, [], [], [], 0, []⟩
 else if op = 6 then some ⟨id, op, of', y.Body, 0, [], 0, 0, noF, none, none, [], false, false, [], [], [], 0, []⟩
 else if op = 7 then
  Option.bind (F94 k y 0) fun b0 => Option.bind (F94 k y 1) fun b1 => Option.bind (F94 k y 2) fun b2 => Option.bind (Xol k b2.Body) fun t => Option.bind (F94 k y 3) fun b3 =>
  some ⟨id, op, of', b0.Body, 0, [], 0, 0, noF, none, none, b1.Body, t.1, decide ((Sl.len y.Kids) > 3), b3.Body, [], [], 0, []⟩
 else if op = 8 then
  Option.bind (F94 k y 0) fun b0 => Option.bind (F94 k y 1) fun b1 => Option.bind (F94 k b1 0) fun c0 => Option.bind (F94 k y 1) fun b2 => Option.bind (F94 k b2 1) fun c1 =>
  some ⟨id, op, of', b0.Body, 0, [], 0, 0, noF, none, none, [], false, false, [], c0.Body, c1.Body, 0, []⟩
 else if op = 9 then
  Option.bind (F94 k y 0) fun b0 => Option.bind (F95 k b0) fun v => Option.bind (F94 k y 1) fun b1 =>
  some ⟨id, op, of', [], 0, [], 0, 0, noF, none, none, [], false, false, [], [], [], v, b1.Body⟩
 else some ⟨id, op, of', [], 0, [], 0, 0, noF, none, none, [], false, false, [], [], [], 0, []⟩
theorem Xi3 {α : Type} (x : Option α) : (x.bind fun y => some y) = x := by cases x <;> rfl
theorem f73 {k : Nat} {e : El} {id op of' : Int} (h1 : F95 k (XbL e 0) = some id) (h2 : F96 k (XbL e 1).Tag = some (op, of')) : F73 k e = XlY k (XbL e 1) id op of' := by
 unfold F73
 rw [bnd (show F94 k e 1 = some (XbL e 1) from f94 k e 1), bnd (show F94 k e 0 = some (XbL e 0) from f94 k e 0), bnd h1, bnd h2]
 simp only [Xi3]
 unfold XlY
 by_cases c1 : op = 1
 ·rw [if_pos c1, XaN (by simpa using c1)]; rfl
 rw [if_neg c1, XaC (by simpa using c1)]
 by_cases c3 : op = 3
 ·rw [if_pos c3, XaN (by simpa using c3)]
 rw [if_neg c3, XaC (by simpa using c3)]
 have hm : (if (op == 4) = true then some (op == 4) else if (op == 5) = true then some (op == 5) else some (op == 10)) = some (decide (op = 4 ∨ op = 5 ∨ op = 10)) := by
  by_cases d4 : op = 4
  ·simp [d4]
  by_cases d5 : op = 5
  ·simp [d5]
  by_cases d10 : op = 10
  ·simp [d10]
  simp [d4, d5, d10]
 rw [bnd hm]
 by_cases c4 : op = 4 ∨ op = 5 ∨ op = 10
 ·rw [if_pos c4, XaN (decide_eq_true c4)]; rfl
 rw [if_neg c4, XaC (decide_eq_false c4)]
 by_cases c6 : op = 6
 ·rw [if_pos c6, XaN (by simpa using c6)]; rfl
 rw [if_neg c6, XaC (by simpa using c6)]
 by_cases c7 : op = 7
 ·rw [if_pos c7, XaN (by simpa using c7)]; rfl
 rw [if_neg c7, XaC (by simpa using c7)]
 by_cases c8 : op = 8
 ·rw [if_pos c8, XaN (by simpa using c8)]; rfl
 rw [if_neg c8, XaC (by simpa using c8)]
 by_cases c9 : op = 9
 ·rw [if_pos c9, XaN (by simpa using c9)]; rfl
 rw [if_neg c9, XaC (by simpa using c9)]; rfl
theorem XeW {k : Nat} {a : Ms} (h : a.Op ≠ 6 ∧ a.Op ≠ 2) : opE a = ls (XbC a) (some (Xbq a)) := by unfold opE; rw [if_neg h.1, if_neg h.2]
theorem Xtl (l : List Xat) : (l.map XoI).map Xjb = l.map Xjb := by
 rw [List.map_map]
 refine List.map_congr_left fun x _ => ?_
 show Xjb (XoI x) = Xjb x
 unfold Xjb XoI
 simp only [XeV]
theorem Xow {k : Nat} (hk : 200200 ≤ k) {a : Ms} (ha : Few a) (hi : isM a = true) (hd : Dpt 20 (XeB a)) {e : El} (he : Eqv 28 (XeB a) e) : ∃ m, F73 k e = some m ∧ nM m = nM a := by
 have hO := XlS hi
 have hc : nM a = nM (Xcz a) := (Xf2 ha.filter).1 (Xj6 hi).2.2.1
 have k0 : Eqv 27 (nm 2 a.ID) (XbL e 0) := XaJ he 0 (by show 0 < 2; omega)
 have k1 : Eqv 27 (opE a) (XbL e 1) := XaJ he 1 (by show 1 < 2; omega)
 have h1 := f95 (k := k) (by omega) hO.id k0
 have h2 := f96 (k := k) (by omega) hO
 rw [← Xjd k1] at h2
 rw [f73 h1 h2, hc]
 have hd1 : Dpt 19 (opE a) := hd _ (by show opE a ∈ [nm 2 a.ID, opE a]; simp)
 clear hd h1 h2 k0 he hc
 generalize XbL e 1 = y at k1
 have z0 := f94 k y 0
 have z1 := f94 k y 1
 have z2 := f94 k y 2
 have z3 := f94 k y 3
 have z6 := f94 k y 6
 have z7 := f94 k y 7
 rw [show ((0 : Nat) : Int) = 0 from rfl] at z0
 rw [show ((1 : Nat) : Int) = 1 from rfl] at z1
 rw [show ((2 : Nat) : Int) = 2 from rfl] at z2
 rw [show ((3 : Nat) : Int) = 3 from rfl] at z3
 rw [show ((6 : Nat) : Int) = 6 from rfl] at z6
 rw [show ((7 : Nat) : Int) = 7 from rfl] at z7
 have hop := hO.op
 unfold XlY Xcz
 by_cases c1 : a.Op = 1
 ·have hb : opE a = ls (XbC a) (some [nm 2 a.Version, tx 4 a.DN, tx 128 a.Pass]) := by rw [XeW (k := k) (by omega)]; unfold Xbq; rw [if_pos c1]
  rw [hb] at k1
  have q0 := XaJ k1 0 (by show 0 < 3; omega)
  have q1 := XaJ k1 1 (by show 1 < 3; omega)
  have q2 := XaJ k1 2 (by show 2 < 3; omega)
  rw [if_pos c1, if_pos c1, bnd z0, bnd (f95 (by omega) (by have := hO.ver c1; omega) q0), bnd z1, bnd z2, XaV q1, XaV q2, if_neg (by omega)]
  exact ⟨_, rfl, rfl⟩
 rw [if_neg c1, if_neg c1]
 by_cases c3 : a.Op = 3
 ·have hb : opE a = ls (XbC a) (some [tx 4 a.DN, nm 10 a.Scope, nm 10 0, nm 2 a.Size, nm 2 0, bl false, elF 22 a.Filter, ls 48 (XdT ((Sl.l a.Wants).map (tx 4)))]) := by rw [XeW (k := k) (by omega)]; unfold Xbq; rw [if_neg c1, if_pos c3]
  rw [hb] at k1 hd1
  obtain ⟨s1, s2, s3, s4, s5⟩ := hO.search c3
  have q0 := XaJ k1 0 (by show 0 < 8; omega)
  have q1 := XaJ k1 1 (by show 1 < 8; omega)
  have q3 := XaJ k1 3 (by show 3 < 8; omega)
  have q6 : Eqv 26 (elF 22 a.Filter) (XbL y 6) := XaJ k1 6 (by show 6 < 8; omega)
  have q7 : Eqv 26 (ls 48 (XdT ((Sl.l a.Wants).map (tx 4)))) (XbL y 7) := XaJ k1 7 (by show 7 < 8; omega)
  have hdf : Dpt 18 (elF 22 a.Filter) := hd1 _ (by show elF 22 a.Filter ∈ [tx 4 a.DN, nm 10 a.Scope, nm 10 0, nm 2 a.Size, nm 2 0, bl false, elF 22 a.Filter, ls 48 (XdT ((Sl.l a.Wants).map (tx 4)))]; simp)
  have hs : isS 22 a.Filter = true := by unfold Xj0 at s3; rw [Bool.and_eq_true] at s3; exact s3.2
  obtain ⟨f', g1, g2⟩ := f98 22 a.Filter hs ha.filter k 26 18 20 (XbL y 6) q6 hdf (by omega) (by omega) (by omega)
  rw [if_pos c3, if_pos c3, bnd z0, bnd z1, bnd (f95 (by omega) (by omega) q1), bnd z3, bnd (f95 (by omega) s2 q3), bnd z7, bnd (Xld (m := 24) q7 (by omega) (by omega)), bnd z6, bnd g1, XaV q0, if_neg (by omega)]
  refine ⟨_, rfl, ?_⟩
  simp only [nM, g2, XeV]
  rfl
 rw [if_neg c3, if_neg c3]
 by_cases c4 : a.Op = 4 ∨ a.Op = 5 ∨ a.Op = 10
 ·have hb : opE a = ls (XbC a) (some [tx 4 a.DN, XdK (a.Op == 4) (Sl.l a.Mods)]) := by
   rw [XeW (k := k) (by omega)]; unfold Xbq; rw [if_neg c1, if_neg c3]
   by_cases d4 : a.Op = 4
   ·rw [if_pos d4, d4]; rfl
   ·rw [if_neg d4, if_pos (by omega), show (a.Op == 4) = false from by simpa using d4]
  rw [hb] at k1
  have q0 := XaJ k1 0 (by show 0 < 2; omega)
  have q1 : Eqv 26 (XdK (a.Op == 4) (Sl.l a.Mods)) (XbL y 1) := XaJ k1 1 (by show 1 < 2; omega)
  have hkn := XdU (hO.mods c4)
  have hx : ∀ x ∈ Sl.l a.Mods, XdJ x ∧ (1 ≤ x.Kind ∧ x.Kind ≤ 3) ∧ ((a.Op == 4) = false → x.Kind = 1) := by
   intro x hx
   refine ⟨ha.mod x hx, hkn x hx, fun d4 => ?_⟩
   have d4 : a.Op ≠ 4 := by simpa using d4
   have h4 := (Xj6 hi).2.2.2
   unfold opS at h4
   rw [if_neg c1, if_neg c3, if_neg d4, if_pos (by omega)] at h4
   have := XdU h4 x hx
   omega
  rw [if_pos c4, if_pos c4, bnd z0, bnd z1, bnd (f99 (m := 20) (by omega) _ _ ha.mods hx q1), XaV q0, if_neg (by omega)]
  refine ⟨_, rfl, ?_⟩
  simp only [nM, XeV, Xtl]
  rfl
 rw [if_neg c4, if_neg c4]
 by_cases c6 : a.Op = 6
 ·have hb : opE a = tx 74 a.DN := by unfold opE; rw [if_pos c6]
  rw [hb] at k1
  rw [if_pos c6, if_pos c6, XaV k1, if_neg (by omega)]
  exact ⟨_, rfl, rfl⟩
 rw [if_neg c6, if_neg c6]
 by_cases c7 : a.Op = 7
 ·have hb : opE a = ls (XbC a) (some ([tx 4 a.DN, tx 4 a.RDN, bl a.DelOld] ++ (if a.HasSup = true then [tx 128 a.Sup] else []))) := by rw [XeW (k := k) (by omega)]; unfold Xbq; rw [if_neg c1, if_neg c3, if_neg (by omega), if_neg (by omega), if_pos c7]
  rw [hb] at k1
  rw [if_pos c7, if_pos c7, bnd z0, bnd z1, bnd z2, if_neg (by omega)]
  cases hs : a.HasSup with
  | false =>
   rw [hs] at k1
   have k1 : Eqv 27 (ls (XbC a) (some [tx 4 a.DN, tx 4 a.RDN, bl a.DelOld])) y := k1
   have q0 := XaJ k1 0 (by show 0 < 3; omega)
   have q1 := XaJ k1 1 (by show 1 < 3; omega)
   have q2 := XaJ k1 2 (by show 2 < 3; omega)
   have hl : (Sl.l y.Kids).length = 3 := Xlb k1
   have hb2 : (XbL y 2).Body = (if a.DelOld = true then [255] else [0]) := XaV q2
   have hk3 : XbL y 3 = zel := by unfold XbL; rw [List.getElem?_eq_none (by omega)]; rfl
   have hg : decide (Sl.len y.Kids > 3) = false := by rw [Sl.len_nat, hl]; rfl
   rw [hb2, bnd (f100 k a.DelOld), bnd z3, hk3, hg, XaV q0, XaV q1]
   exact ⟨_, rfl, rfl⟩
  | true =>
   rw [hs] at k1
   have k1 : Eqv 27 (ls (XbC a) (some [tx 4 a.DN, tx 4 a.RDN, bl a.DelOld, tx 128 a.Sup])) y := k1
   have q0 := XaJ k1 0 (by show 0 < 4; omega)
   have q1 := XaJ k1 1 (by show 1 < 4; omega)
   have q2 := XaJ k1 2 (by show 2 < 4; omega)
   have q3 := XaJ k1 3 (by show 3 < 4; omega)
   have hl : (Sl.l y.Kids).length = 4 := Xlb k1
   have hb2 : (XbL y 2).Body = (if a.DelOld = true then [255] else [0]) := XaV q2
   have hg : decide (Sl.len y.Kids > 3) = true := by rw [Sl.len_nat, hl]; rfl
   rw [hb2, bnd (f100 k a.DelOld), bnd z3, hg, XaV q0, XaV q1, XaV q3]
   exact ⟨_, rfl, rfl⟩
 rw [if_neg c7, if_neg c7]
 by_cases c8 : a.Op = 8
 ·have hb : opE a = ls (XbC a) (some [tx 4 a.DN, ls 48 (some [tx 4 a.Attr, tx 4 a.Value])]) := by rw [XeW (k := k) (by omega)]; unfold Xbq; rw [if_neg c1, if_neg c3, if_neg (by omega), if_neg (by omega), if_neg c7, if_pos c8]
  rw [hb] at k1
  have q0 := XaJ k1 0 (by show 0 < 2; omega)
  have q1 : Eqv 26 (ls 48 (some [tx 4 a.Attr, tx 4 a.Value])) (XbL y 1) := XaJ k1 1 (by show 1 < 2; omega)
  have r0 := XaJ q1 0 (by show 0 < 2; omega)
  have r1 := XaJ q1 1 (by show 1 < 2; omega)
  rw [if_pos c8, if_pos c8, bnd z0, bnd z1, bnd (show F94 k (XbL y 1) 0 = some (XbL (XbL y 1) 0) from f94 k _ 0), bnd z1, bnd (show F94 k (XbL y 1) 1 = some (XbL (XbL y 1) 1) from f94 k _ 1), XaV q0, XaV r0, XaV r1, if_neg (by omega)]
  exact ⟨_, rfl, rfl⟩
 rw [if_neg c8, if_neg c8]
 by_cases c9 : a.Op = 9
 ·have hb : opE a = ls (XbC a) (some [nm 10 a.Code, tx 4 a.Matched, tx 4 []]) := by rw [XeW (k := k) (by omega)]; unfold Xbq; rw [if_neg c1, if_neg c3, if_neg (by omega), if_neg (by omega), if_neg c7, if_neg c8]
  rw [hb] at k1
  have q0 := XaJ k1 0 (by show 0 < 3; omega)
  have q1 := XaJ k1 1 (by show 1 < 3; omega)
  rw [if_pos c9, if_pos c9, bnd z0, bnd (f95 (by omega) (by have := (hO.res c9).2; omega) q0), bnd z1, XaV q1, if_pos c9]
  exact ⟨_, rfl, rfl⟩
 rw [if_neg c9, if_neg c9, if_neg c9]
 exact ⟨_, rfl, rfl⟩
end Go.Proofs.YtbinlabnilidiaaGreatDoor.M
