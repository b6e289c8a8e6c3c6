/- Messages as elements: both print the same. -/
import Derived.Test.YtbinlabnilidiaaDoorMsE4
namespace Go.Proofs.YtbinlabnilidiaaDoor.M
open Go Go.Pam
set_option maxRecDepth 20000
set_option linter.unusedVariables false
set_option linter.unusedSimpArgs false

def nm (t v : Int) : El := ⟨t, intS v, none⟩
theorem num_a {k : Nat} (hk : 10 ≤ k) (t : Int) {v : Int} (h : 0 ≤ v ∧ v ≤ 2147483647) : F15 k t v = some (nm t v) := by
 unfold F15; rw [bnd (int_ok hk h).1]; rfl
theorem num_b {k : Nat} (hk : 10 ≤ k) (t : Int) {v : Int} (h : 0 ≤ v ∧ v ≤ 2147483647) : R56 k t v = some (nm t v) := by
 unfold R56; rw [bnd (int_ok hk h).2]; rfl
theorem num_c {k : Nat} (hk : 10 ≤ k) (t : Int) {v : Int} (h : 0 ≤ v ∧ v ≤ 2147483647) : R26 k t v = some (nm t v) := by
 unfold R26; rw [bnd (num_b hk t h)]
def bl (b : Bool) : El := tx 1 (if b = true then [255] else [0])
theorem bool_a (k : Nat) (b : Bool) : F31 k b = some (bl b) := by cases b <;> rfl
theorem bool_b (k : Nat) (b : Bool) : R59 k b = some (bl b) := by cases b <;> rfl

/-! Modifications -/
def attrE (m : Api_Mod) : El := ls 48 (some [tx 4 m.Attr, ls 49 (rowE ((Sl.l m.Values).map (tx 4)))])
def modE (chg : Bool) (m : Api_Mod) : El := if chg = true then ls 48 (some [nm 10 (m.Kind - 1), attrE m]) else attrE m
def modsE (chg : Bool) (l : List Api_Mod) : El := ls 48 (rowE (l.map (modE chg)))

theorem attr_a (k : Nat) (hk : 300 ≤ k) (m : Api_Mod) (h : (Sl.l m.Values).length ≤ 14) : F51 k m.Attr m.Values = some (attrE m) := by
 have hL := app_loop0 (Sl.l m.Values) (fun _ y => [tx 4 y]) (fun _ _ => Nat.le_refl _) (F51_L0 k m.Attr m.Values (Sl.len m.Values) (Api_Element.mk 0 [] none)) (by
  intro n i y acc hy ha
  have hi := lt_of hy
  rw [F51_L0, if_pos (decide_eq_true (by simp only [Sl.len]; omega)), bnd (at_of hy), bnd (show F13 k 4 y = some (tx 4 y) from rfl), bnd (app1 ha), ad_nat (by omega)]) (by
  intro n acc
  rw [F51_L0, if_neg (by simp [Sl.len])]) (n := k) (by omega) (by omega)
 rw [flatF_map] at hL
 unfold F51
 rw [bnd hL]
 rfl

theorem mods_a (k : Nat) (hk : 300 ≤ k) (x : Sl Api_Mod) (chg : Bool) (hl : (Sl.l x).length ≤ 14) (hx : ∀ m ∈ Sl.l x, modFew m ∧ 1 ≤ m.Kind ∧ m.Kind ≤ 3) : F33 k x chg = some (modsE chg (Sl.l x)) := by
 have hL := app_loop0 (Sl.l x) (fun _ y => [modE chg y]) (fun _ _ => Nat.le_refl _) (F33_L0 k chg x (Sl.len x) (Api_Element.mk 0 [] none)) (by
  intro n i y acc hy ha
  have hi := lt_of hy
  obtain ⟨q1, q2, q3⟩ := hx y (mem_of_get hy)
  have hs : sb .i64 y.Kind 1 = y.Kind - 1 := sb64 (by omega)
  have hz : (if chg = true then Option.bind (F15 k 10 (sb .i64 y.Kind 1)) fun y164 => Option.bind (F12 k 48 (some [y164, attrE y])) fun y166 => some y166 else some (attrE y)) = some (modE chg y) := by
   unfold modE
   cases chg
   ·rfl
   ·rw [if_pos rfl, hs, bnd (num_a (by omega) 10 (by omega))]; rfl
  rw [F33_L0, if_pos (decide_eq_true (by simp only [Sl.len]; omega)), bnd (at_of hy), bnd (attr_a k hk y q1.2.1), bnd hz, bnd (app1 ha), ad_nat (by omega)]) (by
  intro n acc
  rw [F33_L0, if_neg (by simp [Sl.len])]) (n := k) (by omega) (by omega)
 rw [flatF_map] at hL
 unfold F33
 rw [bnd hL]
 rfl

theorem mods_b (k : Nat) (hk : 300 ≤ k) (x : Sl Api_Mod) (hl : (Sl.l x).length ≤ 14) (hx : ∀ m ∈ Sl.l x, modFew m ∧ 1 ≤ m.Kind ∧ m.Kind ≤ 3) : R62 k x = some (modsE true (Sl.l x)) ∧ R63 k x = some (modsE false (Sl.l x)) := by
 constructor
 ·have hL := app_loop0 (Sl.l x) (fun _ y => [modE true y]) (fun _ _ => Nat.le_refl _) (R62_L0 k x (Api_Element.mk 0 [] none)) (by
   intro n i y acc hy ha
   have hi := lt_of hy
   obtain ⟨q1, q2, q3⟩ := hx y (mem_of_get hy)
   have hs : sb .i64 y.Kind 1 = y.Kind - 1 := sb64 (by omega)
   rw [R62_L0, if_pos (decide_eq_true (by simp only [Sl.len]; omega)), bnd (at_of hy), bnd (show R57 k y.Attr = some (tx 4 y.Attr) from rfl), bnd (at_of hy), bnd (texts_b k 49 y.Values (by have := q1.2.1; omega) hk), bnd (show F12 k 48 (some [tx 4 y.Attr, ls 49 (rowE ((Sl.l y.Values).map (tx 4)))]) = some (attrE y) from rfl), bnd (at_of hy), hs, bnd (num_b (by omega) 10 (by omega)), bnd (show F12 k 48 (some [nm 10 (y.Kind - 1), attrE y]) = some (modE true y) from rfl), bnd (app1 ha), ad_nat (by omega)]) (by
   intro n acc
   rw [R62_L0, if_neg (by simp [Sl.len])]) (n := k) (by omega) (by omega)
  rw [flatF_map] at hL
  unfold R62
  rw [bnd hL]
  rfl
 ·have hL := app_loop0 (Sl.l x) (fun _ y => [modE false y]) (fun _ _ => Nat.le_refl _) (R63_L0 k x (Api_Element.mk 0 [] none)) (by
   intro n i y acc hy ha
   have hi := lt_of hy
   obtain ⟨q1, q2, q3⟩ := hx y (mem_of_get hy)
   rw [R63_L0, if_pos (decide_eq_true (by simp only [Sl.len]; omega)), bnd (at_of hy), bnd (show R57 k y.Attr = some (tx 4 y.Attr) from rfl), bnd (at_of hy), bnd (texts_b k 49 y.Values (by have := q1.2.1; omega) hk), bnd (show F12 k 48 (some [tx 4 y.Attr, ls 49 (rowE ((Sl.l y.Values).map (tx 4)))]) = some (modE false y) from rfl), bnd (app1 ha), ad_nat (by omega)]) (by
   intro n acc
   rw [R63_L0, if_neg (by simp [Sl.len])]) (n := k) (by omega) (by omega)
  rw [flatF_map] at hL
  unfold R63
  rw [bnd hL]
  rfl

/-! An operation -/
def tagOf (a : Ms) : Int := if a.Op = 9 then (if a.Of = 1 then 97 else if a.Of = 3 then 101 else if a.Of = 4 then 103 else if a.Of = 5 then 105 else if a.Of = 6 then 107 else if a.Of = 7 then 109 else 111)
 else if a.Op = 1 then 96 else if a.Op = 3 then 99 else if a.Op = 4 then 102 else if a.Op = 5 then 104 else if a.Op = 7 then 108 else if a.Op = 8 then 110 else 100
def bodyE (a : Ms) : List El :=
 if a.Op = 1 then [nm 2 a.Version, tx 4 a.DN, tx 128 a.Pass]
 else if a.Op = 3 then [tx 4 a.DN, nm 10 a.Scope, nm 10 0, nm 2 a.Size, nm 2 0, bl false, elF 22 a.Filter, ls 48 (rowE ((Sl.l a.Wants).map (tx 4)))]
 else if a.Op = 4 then [tx 4 a.DN, modsE true (Sl.l a.Mods)]
 else if a.Op = 5 ∨ a.Op = 10 then [tx 4 a.DN, modsE false (Sl.l a.Mods)]
 else if a.Op = 7 then [tx 4 a.DN, tx 4 a.RDN, bl a.DelOld] ++ (if a.HasSup = true then [tx 128 a.Sup] else [])
 else if a.Op = 8 then [tx 4 a.DN, ls 48 (some [tx 4 a.Attr, tx 4 a.Value])]
 else [nm 10 a.Code, tx 4 a.Matched, tx 4 []]
def opE (a : Ms) : El := if a.Op = 6 then tx 74 a.DN else if a.Op = 2 then ls 66 none else ls (tagOf a) (some (bodyE a))
def msgE (a : Ms) : El := ls 48 (some [nm 2 a.ID, opE a])

end Go.Proofs.YtbinlabnilidiaaDoor.M
