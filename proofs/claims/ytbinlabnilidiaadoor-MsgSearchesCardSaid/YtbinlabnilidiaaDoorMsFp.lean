/- Filters: the second reading of what is a filter. -/
import Derived.Test.YtbinlabnilidiaaDoorMsFc
import Derived.Test.YtbinlabnilidiaaDoorMsX
namespace Go.Proofs.YtbinlabnilidiaaDoor.M
open Go Go.Pam
set_option maxRecDepth 20000
set_option linter.unusedVariables false
set_option linter.unusedSimpArgs false

theorem r91 {k : Nat} (hk : 20 ≤ k) (s : Str) : R91 k s = some (isTy s) := by
 cases s with
 | nil => unfold R91; rfl
 | cons c r =>
  by_cases hlen : r.length ≤ 15
  ·have hl : R91_L0 k (c :: r) k 0 = some (if allFrom (fun _ (c : UInt8) => tyByte c.toNat) 0 (c :: r) = true then .brk (((c :: r).length : Nat) : Int) else .ret false) := by
    refine all_loop0 (c :: r) (fun _ c => tyByte c.toNat) (R91_L0 k (c :: r)) ?_ ?_ (by simp; omega)
    ·intro n i y hy
     have hi := lt_of hy
     have ha : Str.at? (c :: r) (i : Int) = some (y.toNat : Int) := by rw [Str.at?_nat, hy]; rfl
     rw [R91_L0, if_pos (decide_eq_true (by simp only [Str.len]; omega)), bnd ha, ad_nat (by simp at hi; omega)]
     have : ((((decide ((y.toNat : Int) < 97)) || (decide ((y.toNat : Int) > 122))) && ((decide ((y.toNat : Int) < 48)) || (decide ((y.toNat : Int) > 57)))) && ((y.toNat : Int) != 45)) = !tyByte y.toNat := by
      unfold tyByte
      rw [Bool.eq_iff_iff]
      simp only [Bool.and_eq_true, Bool.or_eq_true, decide_eq_true_eq, bne_iff_ne, Bool.not_eq_true', ne_eq, Bool.or_eq_false_iff, Bool.and_eq_false_iff, decide_eq_false_iff_not, beq_eq_false_iff_ne]
      omega
     rw [this]
     cases tyByte y.toNat <;> rfl
    ·intro n
     rw [R91_L0, if_neg (by simp [Str.len])]
   unfold R91
   have ha : Str.at? (c :: r) 0 = some (c.toNat : Int) := rfl
   have hl1 : decide (Str.len (c :: r) < 1) = false := decide_eq_false (by simp only [Str.len, List.length_cons]; omega)
   have hl16 : decide (Str.len (c :: r) > 16) = false := decide_eq_false (by simp only [Str.len, List.length_cons]; omega)
   simp only [ha, hl1, hl16, Option.bind_some, Bool.or_false, Bool.false_eq_true, if_false]
   rw [allFrom_all] at hl
   unfold isTy
   simp only [hlen, decide_true, Bool.true_and]
   by_cases h1 : (c.toNat : Int) < 97
   ·have : decide ((c.toNat : Int) ≥ 97) = false := decide_eq_false (by omega)
    simp only [this, Bool.false_and]
    simp [h1]
   ·have g1 : decide ((c.toNat : Int) ≥ 97) = true := decide_eq_true (by omega)
    have g1' : decide ((c.toNat : Int) < 97) = false := decide_eq_false h1
    simp only [g1, g1', Bool.true_and, Bool.false_eq_true, if_false, Option.bind_some]
    by_cases h2 : (c.toNat : Int) > 122
    ·have : decide ((c.toNat : Int) ≤ 122) = false := decide_eq_false (by omega)
     simp only [this, Bool.false_and, decide_eq_true h2, if_true]
    ·have g2 : decide ((c.toNat : Int) ≤ 122) = true := decide_eq_true (by omega)
     have g2' : decide ((c.toNat : Int) > 122) = false := decide_eq_false h2
     simp only [g2, g2', Bool.true_and, Bool.false_eq_true, if_false]
     rw [bnd hl]
     exact out_all
  ·unfold R91 isTy
   have hl16 : decide (Str.len (c :: r) > 16) = true := decide_eq_true (by simp only [Str.len, List.length_cons]; omega)
   have : decide (r.length ≤ 15) = false := decide_eq_false hlen
   simp [hl16, this]

theorem r69L (rc : Fil → Option Int) (k : Nat) (f : Fil) (q : Fil → Int) (hq : ∀ g ∈ (Sl.l f.Kids), rc g = some (q g) ∧ 1 ≤ q g ∧ q g ≤ 21) (hl : (Sl.l f.Kids).length ≤ 200000) :
  ∀ (j n i : Nat) (x : Int), i + j = (Sl.l f.Kids).length → j < n → 0 ≤ x → x ≤ 1000 → ∃ i', R69_L0 rc k f n x (i : Int) = some (cl (((Sl.l f.Kids).drop i).map q) x, i')
 | j, 0, i, x, _, h, _, _ => by omega
 | 0, n + 1, i, x, hij, _, _, _ => by
  have : i = (Sl.l f.Kids).length := by omega
  subst this
  rw [R69_L0, if_neg (by simp [Sl.len])]
  simp [cl]
 | j + 1, n + 1, i, x, hij, hn, h0, h1 => by
  have hi : i < (Sl.l f.Kids).length := by omega
  have hd : ((Sl.l f.Kids).drop i).map q = q (Sl.l f.Kids)[i] :: ((Sl.l f.Kids).drop (i + 1)).map q := by rw [List.drop_eq_getElem_cons hi]; rfl
  obtain ⟨q1, q2, q3⟩ := hq (Sl.l f.Kids)[i] (List.getElem_mem hi)
  rw [R69_L0, hd]
  have hlt : decide ((i : Int) < Sl.len f.Kids) = true := decide_eq_true (by simp only [Sl.len]; omega)
  simp only [hlt, Bool.true_and, cl]
  by_cases hx : x ≤ 20
  ·rw [if_pos (decide_eq_true hx), if_pos hx, bnd (at_of (List.getElem?_eq_getElem hi)), bnd q1, ad_nat (by omega), ad64 (by omega)]
   exact r69L rc k f q hq hl j n (i + 1) _ (by omega) (by omega) (by omega) (by omega)
  ·rw [if_neg (by simpa using hx), if_neg hx]
   exact ⟨_, rfl⟩

theorem r69 : ∀ (n k : Nat) (f : Fil), fewP n f → n + 200100 ≤ k → R69 k f = some (cS n f)
 | 0, k, f, h, _ => h.elim
 | n + 1, 0, f, _, hk => by omega
 | n + 1, k + 1, f, h, hk => by
  obtain ⟨h1, h2, h3, h4, h5, h6⟩ := h
  rw [R69]
  by_cases hkk : kidsK f.Kind = true
  ·obtain ⟨i', hL⟩ := r69L (R69 k) k f (cS n) (fun g hg => ⟨r69 n k g (h6 g hg) (by omega), cS_range n g⟩) h1 (Sl.l f.Kids).length k 0 1 (by omega) (by omega) (by omega) (by omega)
   rw [List.drop_zero] at hL
   have hL' : R69_L0 (R69 k) k f k 1 0 = some (cl ((Sl.l f.Kids).map (cS n)) 1, i') := hL
   rw [if_pos (show ((decide (f.Kind ≥ 1)) && (decide (f.Kind ≤ 3))) = true from hkk), bnd hL']
   simp only [Option.bind_some, cS, hkk, if_true]
  ·rw [if_neg (show ¬ ((decide (f.Kind ≥ 1)) && (decide (f.Kind ≤ 3))) = true from hkk)]
   simp only [Option.bind_some, cS, hkk]
   rfl

theorem r92L (k : Nat) (x : Sl Str) (h1 : x.l.length ≤ 200000) : ∀ (j n i : Nat) (b : Bool), i + j = x.l.length → j < n →
  R92_L0 k x n b (i : Int) = some (if allFrom (partOk x.l.length) i (x.l.drop i) = true then .brk (b || (x.l.drop i).any (fun s => !(s == [])), ((x.l.length : Nat) : Int)) else .ret false)
 | j, 0, i, b, _, h => by omega
 | 0, n + 1, i, b, hij, _ => by
  have : i = x.l.length := by omega
  subst this
  rw [R92_L0, if_neg (by simp [Sl.len])]
  simp [allFrom]
 | j + 1, n + 1, i, b, hij, hn => by
  have hi : i < x.l.length := by omega
  have ha : Sl.at? x (i : Int) = some x.l[i] := at_of (List.getElem?_eq_getElem hi)
  have hd : x.l.drop i = x.l[i] :: x.l.drop (i + 1) := List.drop_eq_getElem_cons hi
  have hA : allFrom (partOk x.l.length) i (x.l.drop i) = (partOk x.l.length i x.l[i] && allFrom (partOk x.l.length) (i + 1) (x.l.drop (i + 1))) := by rw [hd]; rfl
  have hB : (x.l.drop i).any (fun s => !(s == [])) = (!(x.l[i] == []) || (x.l.drop (i + 1)).any (fun s => !(s == []))) := by rw [hd]; rfl
  have key : (if decide ((Str.len x.l[i]) > 60) = true then some true else
    Option.bind (Sl.at? x (i : Int)) fun y140 => some (((y140 == []) && (decide ((i : Int) > 0))) && (decide ((i : Int) < (sb .i64 (Sl.len x) 1))))) = some (!partOk x.l.length i x.l[i]) := by
   rw [← partOk_eq x.l i x.l[i] h1, show Sl.len x = ((x.l.length : Nat) : Int) from rfl]
   cases decide (Str.len x.l[i] > 60)
   ·simp only [Bool.false_eq_true, if_false, ha, Option.bind_some, Bool.false_or]
   ·simp only [if_true, Bool.true_or]
  have key2 : (if b = true then some true else Option.bind (Sl.at? x (i : Int)) fun y150 => some (!(y150 == []))) = some (b || !(x.l[i] == [])) := by
   cases b
   ·simp only [Bool.false_eq_true, if_false, ha, Option.bind_some, Bool.false_or]
   ·simp only [if_true, Bool.true_or]
  rw [R92_L0, if_pos (decide_eq_true (by simp only [Sl.len]; omega)), bnd ha, bnd key, hA, hB]
  cases hp : partOk x.l.length i x.l[i]
  ·simp
  ·simp only [Bool.not_true, Bool.false_eq_true, if_false]
   rw [bnd key2, ad_nat (by omega), r92L k x h1 j n (i + 1) _ (by omega) (by omega)]
   simp only [Bool.true_and, Bool.or_assoc]

theorem r92 {k : Nat} (hk : 200100 ≤ k) (x : Sl Str) (h1 : x.l.length ≤ 200000) : R92 k x = some (partsS x.l) := by
 unfold R92 partsS
 by_cases hc : ((decide ((Sl.len x) < 2)) || (decide ((Sl.len x) > 20))) = true
 ·rw [if_pos hc]
  have : (decide (2 ≤ x.l.length) && decide (x.l.length ≤ 20)) = false := by
   simp only [Bool.or_eq_true, decide_eq_true_eq] at hc; simp only [Sl.len] at hc
   rw [Bool.and_eq_false_iff, decide_eq_false_iff_not, decide_eq_false_iff_not]; omega
  rw [this]; rfl
 ·rw [if_neg hc]
  have hr : (decide (2 ≤ x.l.length) && decide (x.l.length ≤ 20)) = true := by
   simp only [Bool.or_eq_true, decide_eq_true_eq] at hc; simp only [Sl.len] at hc
   rw [Bool.and_eq_true, decide_eq_true_eq, decide_eq_true_eq]; omega
  have hL := r92L k x h1 x.l.length k 0 false (by omega) (by omega)
  rw [List.drop_zero] at hL
  have hL' : R92_L0 k x k false 0 = _ := hL
  rw [bnd hL', hr]
  cases allFrom (partOk x.l.length) 0 x.l <;> cases x.l.any (fun s => !(s == [])) <;> rfl

theorem r70 : ∀ (n k : Nat) (f : Fil), fewP n f → n + 200110 ≤ k → k < 400000000000000 → R70 k f = some (isS n f)
 | 0, k, f, h, _, _ => h.elim
 | n + 1, 0, f, _, hk, _ => by omega
 | n + 1, k + 1, f, h, hk, hk2 => by
  obtain ⟨h1, h2, h3, h4, h5, h6⟩ := h
  have hloop := all_loop0 (Sl.l f.Kids) (fun _ g => isS n g) (R70_L0 (R70 k) k f) (by
   intro m i y hy
   have hi := lt_of hy
   rw [R70_L0, if_pos (decide_eq_true (by simp only [Sl.len]; omega)), bnd (at_of hy), ad_nat (by omega), bnd (r70 n k y (h6 y (mem_of_get hy)) (by omega) (by omega))]
   cases isS n y <;> rfl) (by
   intro m; rw [R70_L0, if_neg (by simp [Sl.len])]) (n := k) (by omega)
  rw [allFrom_all] at hloop
  have hp : R92 k f.Subs = some (partsS (Sl.l f.Subs)) := r92 (by omega) f.Subs h4
  have ht : R91 k f.Attr = some (isTy f.Attr) := r91 (by omega) f.Attr
  have h1e : (Sl.len f.Kids != 1) = !decide ((Sl.l f.Kids).length = 1) := by
   rw [Bool.eq_iff_iff, bne_iff_ne, Bool.not_eq_true', decide_eq_false_iff_not]; simp only [Sl.len]; omega
  have hv : decide (Str.len f.Value ≤ 60) = decide (f.Value.length ≤ 60) := by rw [decide_eq_decide]; simp only [Str.len]; omega
  have s0 : decide (Sl.len f.Subs > 0) = !decide ((Sl.l f.Subs).length = 0) := by
   rw [Bool.eq_iff_iff, decide_eq_true_eq, Bool.not_eq_true', decide_eq_false_iff_not]; simp only [Sl.len]; omega
  have q0 : decide (Sl.len f.Kids > 0) = !decide ((Sl.l f.Kids).length = 0) := by
   rw [Bool.eq_iff_iff, decide_eq_true_eq, Bool.not_eq_true', decide_eq_false_iff_not]; simp only [Sl.len]; omega
  rw [R70]
  rw [show ((decide (f.Kind ≥ 1)) && (decide (f.Kind ≤ 3))) = kidsK f.Kind from rfl]
  simp only [hloop, hp, ht, h1e, hv, s0, q0, Option.bind_some, len0, isS]
  by_cases hk3 : kidsK f.Kind = true
  ·rw [if_pos hk3, if_pos hk3]
   have e3 : (f.Kind == 3) = decide (f.Kind = 3) := by rw [Bool.eq_iff_iff, beq_iff_eq, decide_eq_true_eq]
   have e3' : decide (f.Kind ≠ 3) = !decide (f.Kind = 3) := by simp
   rw [e3, e3']
   cases (f.Attr == []) <;> cases (f.Value == []) <;> cases decide ((Sl.l f.Subs).length = 0) <;> cases decide (f.Kind = 3) <;> cases decide ((Sl.l f.Kids).length = 1) <;> cases (Sl.l f.Kids).all (isS n) <;> simp
  ·rw [if_neg hk3, if_neg hk3]
   have hnk : ¬ (1 ≤ f.Kind ∧ f.Kind ≤ 3) := by
    intro hh; apply hk3; unfold kidsK; rw [Bool.and_eq_true, decide_eq_true_eq, decide_eq_true_eq]; omega
   by_cases hr : 4 ≤ f.Kind ∧ f.Kind ≤ 8
   ·have r1 : decide (f.Kind < 4) = false := decide_eq_false (by omega)
    have r2 : decide (f.Kind > 8) = false := decide_eq_false (by omega)
    simp only [r1, r2, Bool.false_or]
    by_cases k7 : f.Kind = 7
    ·simp only [k7, beq_self_eq_true, if_true]
     cases decide ((Sl.l f.Kids).length = 0) <;> cases isTy f.Attr <;> cases (f.Value == []) <;> cases decide ((Sl.l f.Subs).length = 0) <;> simp
    ·have e7 : (f.Kind == 7) = false := by simpa using k7
     rw [if_neg k7]
     simp only [e7, Bool.false_eq_true, if_false]
     by_cases k8 : f.Kind = 8
     ·simp only [k8, beq_self_eq_true, if_true]
      cases decide ((Sl.l f.Kids).length = 0) <;> cases isTy f.Attr <;> cases (f.Value == []) <;> simp
     ·have e8 : (f.Kind == 8) = false := by simpa using k8
      rw [if_neg k8, if_pos (show f.Kind = 4 ∨ f.Kind = 5 ∨ f.Kind = 6 by omega)]
      simp only [e8, Bool.false_eq_true, if_false]
      cases decide ((Sl.l f.Kids).length = 0) <;> cases isTy f.Attr <;> cases decide (f.Value.length ≤ 60) <;> cases decide ((Sl.l f.Subs).length = 0) <;> simp
   ·have r1 : (decide (f.Kind < 4) || decide (f.Kind > 8)) = true := by rw [Bool.or_eq_true, decide_eq_true_eq, decide_eq_true_eq]; omega
    rw [if_neg (show ¬ f.Kind = 7 by omega), if_neg (show ¬ f.Kind = 8 by omega), if_neg (show ¬ (f.Kind = 4 ∨ f.Kind = 5 ∨ f.Kind = 6) by omega)]
    simp [r1]

end Go.Proofs.YtbinlabnilidiaaDoor.M
