/- Filters: what the small functions compute, on plain lists. -/
import Derived.Test.YtbinlabnilidiaaDoorMsX
namespace Go.Proofs.YtbinlabnilidiaaDoor.M
open Go Go.Pam
set_option maxRecDepth 20000
set_option linter.unusedVariables false
set_option linter.unusedSimpArgs false

abbrev Fil := Api_Filter

/-! Loops that look at each element -/
def allFrom {α : Type} (p : Nat → α → Bool) : Nat → List α → Bool
 | _, [] => true
 | i, x :: xs => p i x && allFrom p (i + 1) xs

theorem allFrom_all {α : Type} {p : α → Bool} : ∀ (i : Nat) (l : List α), allFrom (fun _ x => p x) i l = l.all p
 | _, [] => rfl
 | i, x :: xs => by simp only [allFrom, List.all_cons]; rw [allFrom_all (i + 1) xs]

theorem all_loop {α : Type} (l : List α) (p : Nat → α → Bool) (Lf : Nat → Int → Option (Out Bool Int))
  (h1 : ∀ (n i : Nat) (y : α), l[i]? = some y → Lf (n + 1) (i : Int) = if p i y = true then Lf n ((i + 1 : Nat) : Int) else some (.ret false))
  (h2 : ∀ n, Lf (n + 1) ((l.length : Nat) : Int) = some (.brk ((l.length : Nat) : Int))) :
  ∀ (j n i : Nat), i + j = l.length → j < n → Lf n (i : Int) = some (if allFrom p i (l.drop i) = true then .brk ((l.length : Nat) : Int) else .ret false)
 | j, 0, i, _, h => by omega
 | 0, n + 1, i, hij, _ => by
  have : i = l.length := by omega
  subst this
  rw [h2]; simp [allFrom]
 | j + 1, n + 1, i, hij, hn => by
  have hi : i < l.length := by omega
  have hd : allFrom p i (l.drop i) = (p i l[i] && allFrom p (i + 1) (l.drop (i + 1))) := by rw [List.drop_eq_getElem_cons hi]; rfl
  rw [h1 n i l[i] (List.getElem?_eq_getElem hi), hd]
  by_cases hp : p i l[i] = true
  ·rw [if_pos hp, all_loop l p Lf h1 h2 j n (i + 1) (by omega) (by omega)]
   simp [hp]
  ·rw [if_neg hp]
   simp [hp]

theorem all_loop0 {α : Type} (l : List α) (p : Nat → α → Bool) (Lf : Nat → Int → Option (Out Bool Int))
  (h1 : ∀ (n i : Nat) (y : α), l[i]? = some y → Lf (n + 1) (i : Int) = if p i y = true then Lf n ((i + 1 : Nat) : Int) else some (.ret false))
  (h2 : ∀ n, Lf (n + 1) ((l.length : Nat) : Int) = some (.brk ((l.length : Nat) : Int))) {n : Nat} (hn : l.length < n) :
  Lf n 0 = some (if allFrom p 0 l = true then .brk ((l.length : Nat) : Int) else .ret false) := by
 have := all_loop l p Lf h1 h2 l.length n 0 (by omega) hn
 simpa using this

theorem out_all {b : Bool} {n : Int} : (match (if b = true then Out.brk n else Out.ret false : Out Bool Int) with | .ret r => some r | .brk _ => some true) = some b := by
 cases b <;> rfl

theorem at_of {α : Type} {x : Sl α} {i : Nat} {y : α} (h : x.l[i]? = some y) : Sl.at? x (i : Int) = some y := by rw [Sl.at?_nat]; exact h
theorem lt_of {α : Type} {l : List α} {i : Nat} {y : α} (h : l[i]? = some y) : i < l.length := (List.getElem?_eq_some_iff.1 h).1

/-! Names of types -/
def tyByte (c : Int) : Bool := (decide (c ≥ 97) && decide (c ≤ 122)) || (decide (c ≥ 48) && decide (c ≤ 57)) || (c == 45)
def isTy (s : Str) : Bool := match s with
 | [] => false
 | c :: r => decide (r.length ≤ 15) && decide ((c.toNat : Int) ≥ 97) && decide ((c.toNat : Int) ≤ 122) && (c :: r).all fun c => tyByte c.toNat

theorem f69 {k : Nat} (hk : 20 ≤ k) (s : Str) : F69 k s = some (isTy s) := by
 cases s with
 | nil => unfold F69; rfl
 | cons c r =>
  by_cases hlen : r.length ≤ 15
  ·have hl : F69_L0 k (Str.bytes (c :: r)) (Sl.len (Str.bytes (c :: r))) k 0 = some (if allFrom (fun _ (c : Int) => tyByte c) 0 (Sl.l (Str.bytes (c :: r))) = true then .brk (((Sl.l (Str.bytes (c :: r))).length : Nat) : Int) else .ret false) := by
    refine all_loop0 (Sl.l (Str.bytes (c :: r))) (fun _ c => tyByte c) (F69_L0 k (Str.bytes (c :: r)) (Sl.len (Str.bytes (c :: r)))) ?_ ?_ (by rw [Str.bytes_l]; simp; omega)
    ·intro n i y hy
     have hi := lt_of hy
     rw [F69_L0, if_pos (decide_eq_true (by simp only [Sl.len]; omega)), bnd (at_of hy), ad_nat (by rw [Str.bytes_l] at hi; simp at hi; omega)]
     unfold tyByte
     by_cases h1 : ((decide (y ≥ 97)) && (decide (y ≤ 122))) = true
     ·simp [h1]
     ·by_cases h2 : ((decide (y ≥ 48)) && (decide (y ≤ 57))) = true
      ·simp [h1, h2]
      ·simp only [Bool.not_eq_true] at h1 h2
       by_cases h3 : y = 45
       ·simp [h1, h2, h3]
       ·have h3' : (y == 45) = false := by simpa using h3
        simp [h1, h2, h3']
    ·intro n
     rw [F69_L0, if_neg (by simp [Sl.len])]
   unfold F69
   have ha : Str.at? (c :: r) 0 = some (c.toNat : Int) := rfl
   have hl16 : decide (Str.len (c :: r) > 16) = false := decide_eq_false (by simp only [Str.len, List.length_cons]; omega)
   simp only [ha, hl16, Option.bind_some, Bool.or_false, show ((c :: r : Str) == []) = false from rfl, Bool.false_eq_true, if_false]
   have hall : allFrom (fun _ (c : Int) => tyByte c) 0 (Sl.l (Str.bytes (c :: r))) = (c :: r).all fun c => tyByte c.toNat := by
    rw [allFrom_all, Str.bytes_l, List.all_map]; rfl
   rw [hall] at hl
   unfold isTy
   simp only [hlen, decide_true, Bool.true_and]
   by_cases h1 : (c.toNat : Int) < 97
   ·have : decide ((c.toNat : Int) ≥ 97) = false := decide_eq_false (by omega)
    simp only [this, Bool.false_and]
    simp [h1]
   ·have g1 : decide ((c.toNat : Int) ≥ 97) = true := decide_eq_true (by omega)
    have g1' : decide ((c.toNat : Int) < 97) = false := decide_eq_false h1
    simp only [g1, g1', Bool.true_and, Bool.false_eq_true, if_false, Option.bind_some]
    by_cases h2 : (c.toNat : Int) > 122
    ·have : decide ((c.toNat : Int) ≤ 122) = false := decide_eq_false (by omega)
     simp only [this, Bool.false_and, decide_eq_true h2, if_true]
    ·have g2 : decide ((c.toNat : Int) ≤ 122) = true := decide_eq_true (by omega)
     have g2' : decide ((c.toNat : Int) > 122) = false := decide_eq_false h2
     simp only [g2, g2', Bool.true_and, Bool.false_eq_true, if_false]
     rw [bnd hl]
     exact out_all
  ·unfold F69 isTy
   have hl16 : decide (Str.len (c :: r) > 16) = true := decide_eq_true (by simp only [Str.len, List.length_cons]; omega)
   have : decide (r.length ≤ 15) = false := decide_eq_false hlen
   simp [hl16, this]

end Go.Proofs.YtbinlabnilidiaaDoor.M
