/- Messages: the reference's reading of the same. -/
import Derived.Test.YtbinlabnilidiaaDoorMsFd
import Derived.Test.YtbinlabnilidiaaDoorMsFp
import Derived.Test.YtbinlabnilidiaaDoorMsS
namespace Go.Proofs.YtbinlabnilidiaaDoor.M
open Go Go.Pam
set_option maxRecDepth 20000
set_option linter.unusedVariables false
set_option linter.unusedSimpArgs false

theorem all2_eq : ∀ (l m : List Str), all2 (fun x y => x == y) l m = (l == m)
 | [], [] => rfl
 | x :: xs, y :: ys => by
  show ((x == y) && all2 _ xs ys) = _
  rw [all2_eq xs ys]; rfl
 | [], _ :: _ => rfl
 | _ :: _, [] => rfl

theorem f21 (k : Nat) (x y : Sl Str) (hl : (Sl.l x).length ≤ 200000) (hk : 200100 ≤ k) : F21 k x y = some (Sl.l x == Sl.l y) := by
 unfold F21
 rw [len_ne, ← all2_eq]
 by_cases h : (Sl.l x).length = (Sl.l y).length
 ·rw [decide_eq_true h]
  have hL := two_loop (Sl.l x) (Sl.l y) h (fun a b => a == b) (F21_L0 k x y) (by
   intro n i a b h1 h2
   have hi := lt_of h1
   rw [F21_L0, if_pos (decide_eq_true (by simp only [Sl.len]; omega)), bnd (at_of h1), bnd (at_of h2), ad_nat (by omega)]
   cases (a == b) <;> rfl) (by
   intro n; rw [F21_L0, if_neg (by simp [Sl.len])]) (n := k) (by omega)
  rw [if_neg (by simp), bnd hL]
  exact out_all
 ·rw [decide_eq_false h, if_pos (show (!false) = true from rfl), all2_ne h]

theorem f22 {k : Nat} (hk : 200100 ≤ k) (x y : Sl Api_Mod) (hl : (Sl.l x).length ≤ 200000) (hx : ∀ a ∈ Sl.l x, modFew a) : F22 k x y = some (modsEq x y) := by
 unfold F22 modsEq
 rw [len_ne]
 by_cases h : (Sl.l x).length = (Sl.l y).length
 ·rw [decide_eq_true h]
  have hL := two_loop (Sl.l x) (Sl.l y) h modEq (F22_L0 k x y) (by
   intro n i a b h1 h2
   have hi := lt_of h1
   have ha := at_of h1
   have hb := at_of h2
   have hv := f21 k a.Values b.Values (by have := (hx a (mem_of_get h1)).2.1; omega) hk
   rw [F22_L0, if_pos (decide_eq_true (by simp only [Sl.len]; omega)), bnd ha, bnd hb, ha, hb, ad_nat (by omega)]
   unfold modEq
   simp only [Option.bind_some, hv, bne]
   cases (a.Kind == b.Kind) <;> cases (a.Attr == b.Attr) <;> cases (Sl.l a.Values == Sl.l b.Values) <;> rfl) (by
   intro n; rw [F22_L0, if_neg (by simp [Sl.len])]) (n := k) (by omega)
  rw [if_neg (by simp), bnd hL]
  exact out_all
 ·rw [decide_eq_false h, if_pos (show (!false) = true from rfl), all2_ne h]

theorem f8 {k : Nat} (hk : 200200 ≤ k) (hk2 : k < 400000000000000) {a b : Ms} (ha : Few a) (hb : fewP 22 b.Filter) : F8 k a b = some (msgEq a b) := by
 unfold F8
 rw [f20 22 k _ _ ha.filter hb (by omega) hk2, f21 k _ _ (by have := ha.wants; omega) (by omega), f22 (by omega) _ _ (by have := ha.mods; omega) ha.mod]
 unfold msgEq sc1 sc2
 generalize (a.ID == b.ID) = q1
 generalize (a.Op == b.Op) = q2
 generalize (a.Of == b.Of) = q3
 generalize (a.DN == b.DN) = q4
 generalize (a.Version == b.Version) = q5
 generalize (a.Pass == b.Pass) = q6
 generalize (a.Scope == b.Scope) = q7
 generalize (a.Size == b.Size) = q8
 generalize sameS 22 a.Filter b.Filter = q9
 generalize (Sl.l a.Wants == Sl.l b.Wants) = q10
 generalize modsEq a.Mods b.Mods = q11
 generalize (a.RDN == b.RDN) = q12
 generalize (a.DelOld == b.DelOld) = q13
 generalize (a.HasSup == b.HasSup) = q14
 generalize (a.Sup == b.Sup) = q15
 generalize (a.Attr == b.Attr) = q16
 generalize (a.Value == b.Value) = q17
 generalize (a.Code == b.Code) = q18
 generalize (a.Matched == b.Matched) = q19
 cases q1 <;> cases q2 <;> cases q3 <;> (try simp) <;> cases q4 <;> cases q5 <;> cases q6 <;> (try simp) <;> cases q7 <;> cases q8 <;> cases q9 <;> (try simp) <;> cases q10 <;> cases q11 <;> (try simp) <;> cases q12 <;> cases q13 <;> cases q14 <;> (try simp) <;> cases q15 <;> cases q16 <;> cases q17 <;> cases q18 <;> simp

theorem r34c {k : Nat} (a : Ms) : R34 k a = some (coreS a) := by
 unfold R34 coreS
 by_cases h1 : a.Op = 1
 ·simp [h1, noF]
 by_cases h3 : a.Op = 3
 ·simp [h3, noF]
 by_cases h4 : a.Op = 4
 ·simp [h4, noF]
 by_cases h5 : a.Op = 5
 ·simp [h5, noF]
 by_cases h10 : a.Op = 10
 ·simp [h10, noF]
 by_cases h6 : a.Op = 6
 ·simp [h6, noF]
 by_cases h7 : a.Op = 7
 ·cases hs : a.HasSup <;> simp [h7, noF, hs]
 by_cases h8 : a.Op = 8
 ·simp [h8, noF]
 by_cases h9 : a.Op = 9
 ·simp [h9, noF]
 simp [h1, h3, h4, h5, h6, h7, h8, h9, h10, noF]

theorem r35 {k : Nat} (x : Sl Str) (hx : (Sl.l x).length < k) (hl : (Sl.l x).length ≤ 200000) : R35 k x = some (textsS (Sl.l x) && decide ((Sl.l x).length ≤ 12)) := by
 have hL := all_loop0 (Sl.l x) (fun _ s => decide (s.length ≤ 400)) (R35_L0 k x) (by
  intro n i y hy
  have hi := lt_of hy
  have e : decide (Str.len y > 400) = !decide (y.length ≤ 400) := by
   rw [Bool.eq_iff_iff, decide_eq_true_eq, Bool.not_eq_true', decide_eq_false_iff_not]; simp only [Str.len]; omega
  rw [R35_L0, if_pos (decide_eq_true (by simp only [Sl.len]; omega)), bnd (at_of hy), e, ad_nat (by omega)]
  cases decide (y.length ≤ 400) <;> rfl) (by
  intro n; rw [R35_L0, if_neg (by simp [Sl.len])]) (n := k) hx
 rw [allFrom_all] at hL
 have e : decide (Sl.len x ≤ 12) = decide ((Sl.l x).length ≤ 12) := by rw [decide_eq_decide]; simp only [Sl.len]; omega
 unfold R35 textsS
 rw [bnd hL]
 cases (Sl.l x).all (fun s => decide (s.length ≤ 400))
 ·rfl
 ·simp only [if_true, e, Bool.true_and]

theorem r36 {k : Nat} (hk : 200100 ≤ k) (x : Sl Api_Mod) (b : Bool) (hl : (Sl.l x).length ≤ 14) (hx : ∀ a ∈ Sl.l x, modFew a) : R36 k x b = some (modsIs (Sl.l x) (if b = true then 3 else 1)) := by
 have hL := all_loop0 (Sl.l x) (fun _ m => modIs (if b = true then 3 else 1) m) (R36_L0 k x b) (by
  intro n i y hy
  have hi := lt_of hy
  have hf := hx y (mem_of_get hy)
  have ha := at_of hy
  have e : decide (Str.len y.Attr > 400) = !decide (y.Attr.length ≤ 400) := by
   rw [Bool.eq_iff_iff, decide_eq_true_eq, Bool.not_eq_true', decide_eq_false_iff_not]; simp only [Str.len]; omega
  have t2 := r35 (k := k) y.Values (by have := hf.2.1; omega) (by have := hf.2.1; omega)
  rw [R36_L0, if_pos (decide_eq_true (by simp only [Sl.len]; omega)), bnd ha, ha, ad_nat (by omega)]
  simp only [Option.bind_some, e, t2]
  unfold modIs
  have b1 : decide (y.Kind < 1) = !decide (1 ≤ y.Kind) := by rw [Bool.eq_iff_iff, decide_eq_true_eq, Bool.not_eq_true', decide_eq_false_iff_not]; omega
  have b3 : decide (y.Kind > 3) = !decide (y.Kind ≤ 3) := by rw [Bool.eq_iff_iff, decide_eq_true_eq, Bool.not_eq_true', decide_eq_false_iff_not]; omega
  rw [b1, b3]
  cases b with
  | true =>
   simp only [Bool.not_true, Bool.false_eq_true, if_false, Option.bind_some, if_true]
   cases decide (1 ≤ y.Kind) <;> cases decide (y.Kind ≤ 3) <;> cases decide (y.Attr.length ≤ 400) <;> cases decide ((Sl.l y.Values).length ≤ 12) <;> cases textsS (Sl.l y.Values) <;> rfl
  | false =>
   by_cases h1 : 1 ≤ y.Kind
   ·by_cases h2 : y.Kind ≤ 1
    ·have hk1 : y.Kind = 1 := by omega
     simp only [hk1]
     cases decide (y.Attr.length ≤ 400) <;> cases decide ((Sl.l y.Values).length ≤ 12) <;> cases textsS (Sl.l y.Values) <;> rfl
    ·have e1 : (y.Kind != 1) = true := by simp; omega
     rw [decide_eq_true h1, e1]
     simp only [Bool.false_eq_true, if_false, decide_eq_false h2, Bool.and_false, Bool.false_and, Bool.not_false, if_true, Bool.not_true, Option.bind_some]
     cases decide (y.Kind ≤ 3) <;> rfl
   ·rw [decide_eq_false h1]; rfl) (by
  intro n; rw [R36_L0, if_neg (by simp [Sl.len])]) (n := k) (by omega)
 unfold R36 modsIs
 rw [bnd hL, allFrom_all]
 have e : decide (Sl.len x ≤ 12) = decide ((Sl.l x).length ≤ 12) := by rw [decide_eq_decide]; simp only [Sl.len]; omega
 cases (Sl.l x).all (modIs (if b = true then 3 else 1))
 ·rfl
 ·simp only [if_true, e, Bool.true_and]

theorem r37 {k : Nat} (hk : 200200 ≤ k) (hk2 : k < 400000000000000) {f : Fil} (hf : fewP 22 f) : R37 k f = some (filS f) := by
 unfold R37 filS
 rw [bnd (r69 22 k f hf (by omega)), r70 22 k f hf (by omega) hk2]
 cases decide (cS 22 f ≤ 20) <;> rfl

end Go.Proofs.YtbinlabnilidiaaDoor.M
