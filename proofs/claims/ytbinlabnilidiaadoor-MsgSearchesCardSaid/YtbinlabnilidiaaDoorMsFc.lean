/- Filters: what is one, and which are the same. -/
import Derived.Test.YtbinlabnilidiaaDoorMsFb
namespace Go.Proofs.YtbinlabnilidiaaDoor.M
open Go Go.Pam
set_option maxRecDepth 20000
set_option linter.unusedVariables false
set_option linter.unusedSimpArgs false

def isS : Nat → Fil → Bool
 | 0, _ => false
 | n + 1, f =>
  if kidsK f.Kind = true then f.Attr == [] && f.Value == [] && decide ((Sl.l f.Subs).length = 0) && (decide (f.Kind ≠ 3) || decide ((Sl.l f.Kids).length = 1)) && (Sl.l f.Kids).all (isS n)
  else if f.Kind = 7 then isTy f.Attr && f.Value == [] && decide ((Sl.l f.Subs).length = 0) && decide ((Sl.l f.Kids).length = 0)
  else if f.Kind = 8 then isTy f.Attr && f.Value == [] && decide ((Sl.l f.Kids).length = 0) && partsS (Sl.l f.Subs)
  else if f.Kind = 4 ∨ f.Kind = 5 ∨ f.Kind = 6 then isTy f.Attr && decide (f.Value.length ≤ 60) && decide ((Sl.l f.Subs).length = 0) && decide ((Sl.l f.Kids).length = 0)
  else false

theorem len0 {α : Type} (x : Sl α) : (Sl.len x == 0) = decide ((Sl.l x).length = 0) := by
 rw [Bool.eq_iff_iff, beq_iff_eq, decide_eq_true_eq]; simp only [Sl.len]; omega

theorem f24 (rc : Fil → Option Bool) (q : Fil → Bool) (k : Nat) (x : Sl Fil) (hk : (Sl.l x).length < k) (hk2 : k < 9223372036854775000) (hq : ∀ g ∈ Sl.l x, rc g = some (q g)) : F67_68 k rc x = some (!(Sl.l x).all q) := by
 have L : ∀ (j n i : Nat), i + j = (Sl.l x).length → j < n → ∃ o, F75_68_L0 rc k x (Sl.len x) n (i : Int) = some o ∧ (match o with | .ret r => 0 ≤ r ∧ ((Sl.l x).drop i).all q = false | .brk _ => ((Sl.l x).drop i).all q = true) := by
  intro j
  induction j with
  | zero =>
   intro n i hij hn
   obtain ⟨m, rfl⟩ : ∃ m, n = m + 1 := ⟨n - 1, by omega⟩
   rw [F75_68_L0, if_neg (by simp [Sl.len]; omega)]
   exact ⟨_, rfl, by simp only; rw [List.drop_eq_nil_of_le (by omega)]; rfl⟩
  | succ j ih =>
   intro n i hij hn
   obtain ⟨m, rfl⟩ : ∃ m, n = m + 1 := ⟨n - 1, by omega⟩
   have hi : i < (Sl.l x).length := by omega
   have hF : F68 k rc (Sl.l x)[i] = some (!q (Sl.l x)[i]) := by
    unfold F68; rw [bnd (hq _ (List.getElem_mem hi))]
   have hd : (Sl.l x).drop i = (Sl.l x)[i] :: (Sl.l x).drop (i + 1) := List.drop_eq_getElem_cons hi
   rw [F75_68_L0, if_pos (decide_eq_true (by simp only [Sl.len]; omega)), bnd (at_of (List.getElem?_eq_getElem hi)), bnd hF, hd, List.all_cons]
   cases hv : q (Sl.l x)[i]
   ·exact ⟨.ret (i : Int), rfl, by simp only; exact ⟨by omega, rfl⟩⟩
   ·simp only [Bool.not_true, Bool.false_eq_true, if_false, Bool.true_and]
    rw [ad_nat (by omega)]
    exact ih m (i + 1) (by omega) (by omega)
 obtain ⟨o, h1, h2⟩ := L (Sl.l x).length k 0 (by omega) hk
 have h1' : F75_68_L0 rc k x (Sl.len x) k 0 = some o := h1
 unfold F67_68 F75_68
 rw [bnd h1']
 cases o with
 | ret r => simp only [List.drop_zero] at h2; simp only [Option.bind_some]; rw [h2.2, decide_eq_true h2.1]; rfl
 | brk v => simp only [List.drop_zero] at h2; simp only [Option.bind_some]; rw [h2]; rfl

theorem f48 : ∀ (n k : Nat) (f : Fil), fewP n f → n + 200110 ≤ k → k < 400000000000000 → F48 k f = some (isS n f)
 | 0, k, f, h, _, _ => h.elim
 | n + 1, 0, f, _, hk, _ => by omega
 | n + 1, k + 1, f, h, hk, hk2 => by
  obtain ⟨h1, h2, h3, h4, h5, h6⟩ := h
  have hc : F67_68 k (F48 k) f.Kids = some (!(Sl.l f.Kids).all (isS n)) := f24 (F48 k) (isS n) k f.Kids (by omega) (by omega) (fun g hg => f48 n k g (h6 g hg) (by omega) (by omega))
  have hp : F70 k f.Subs = some (partsS (Sl.l f.Subs)) := f70 (by omega) f.Subs h4 h5
  have ht : F69 k f.Attr = some (isTy f.Attr) := f69 (by omega) f.Attr
  have h1e : (Sl.len f.Kids != 1) = !decide ((Sl.l f.Kids).length = 1) := by
   rw [Bool.eq_iff_iff, bne_iff_ne, Bool.not_eq_true', decide_eq_false_iff_not]; simp only [Sl.len]; omega
  have hv : decide (Str.len f.Value ≤ 60) = decide (f.Value.length ≤ 60) := by rw [decide_eq_decide]; simp only [Str.len]; omega
  rw [F48]
  simp only [hc, hp, ht, h1e, hv, Option.bind_some, len0, Bool.not_not, isS]
  by_cases k3 : f.Kind = 3
  ·have e1 : kidsK f.Kind = true := by rw [k3]; rfl
   rw [if_pos e1]
   simp only [k3, beq_self_eq_true, if_true, ne_eq, not_true_eq_false, decide_false, Bool.false_or]
   cases decide ((Sl.l f.Kids).length = 1)
   ·simp
   ·simp only [Bool.not_true, Bool.false_eq_true, if_false, Bool.and_true]
    cases ((f.Attr == []) && (f.Value == []) && decide ((Sl.l f.Subs).length = 0)) <;> simp
  ·have e3 : (f.Kind == 3) = false := by simpa using k3
   simp only [e3, Bool.false_eq_true, if_false]
   by_cases k1 : f.Kind = 1
   ·have e1 : kidsK f.Kind = true := by rw [k1]; rfl
    rw [if_pos e1]
    simp only [k1, beq_self_eq_true, if_true, Option.bind_some]
    cases ((f.Attr == []) && (f.Value == []) && decide ((Sl.l f.Subs).length = 0)) <;> simp
   ·have e1' : (f.Kind == 1) = false := by simpa using k1
    simp only [e1', Bool.false_eq_true, if_false, Option.bind_some]
    by_cases k2 : f.Kind = 2
    ·have e1 : kidsK f.Kind = true := by rw [k2]; rfl
     rw [if_pos e1]
     simp only [k2, beq_self_eq_true, if_true, Option.bind_some]
     cases ((f.Attr == []) && (f.Value == []) && decide ((Sl.l f.Subs).length = 0)) <;> simp
    ·have e2 : (f.Kind == 2) = false := by simpa using k2
     have e0 : ¬ kidsK f.Kind = true := by
      unfold kidsK; rw [Bool.and_eq_true, decide_eq_true_eq, decide_eq_true_eq]; omega
     rw [if_neg e0]
     simp only [e2, Bool.false_eq_true, if_false, Option.bind_some]
     by_cases k7 : f.Kind = 7
     ·simp [k7]
     ·have e7 : (f.Kind == 7) = false := by simpa using k7
      simp only [e7, Bool.false_eq_true, if_false]
      rw [if_neg k7]
      by_cases k8 : f.Kind = 8
      ·simp only [k8, beq_self_eq_true, if_true]
       cases (isTy f.Attr && (f.Value == []) && decide ((Sl.l f.Kids).length = 0)) <;> simp
      ·have e8 : (f.Kind == 8) = false := by simpa using k8
       simp only [e8, Bool.false_eq_true, if_false]
       rw [if_neg k8]
       by_cases k4 : f.Kind = 4
       ·simp [k4]
       ·have e4 : (f.Kind == 4) = false := by simpa using k4
        simp only [e4, Bool.false_eq_true, if_false, Option.bind_some]
        by_cases k5 : f.Kind = 5
        ·simp [k5]
        ·have e5 : (f.Kind == 5) = false := by simpa using k5
         simp only [e5, Bool.false_eq_true, if_false, Option.bind_some]
         by_cases k6 : f.Kind = 6
         ·simp [k6]
         ·have e6 : (f.Kind == 6) = false := by simpa using k6
          simp [e6, k4, k5, k6]

/-! The same -/
def sameS : Nat → Fil → Fil → Bool
 | 0, _, _ => false
 | n + 1, f, g => decide (f.Kind = g.Kind) && (f.Attr == g.Attr) && (f.Value == g.Value) && (Sl.l f.Subs == Sl.l g.Subs) && decide ((Sl.l f.Kids).length = (Sl.l g.Kids).length) && allFrom (fun i x => match (Sl.l g.Kids)[i]? with | some y => sameS n x y | none => false) 0 (Sl.l f.Kids)

theorem subs_all : ∀ (i : Nat) (l m : List Str), l.length = m.length → ∀ (full : List Str), (∀ j, m[j]? = full[i + j]?) → allFrom (fun i x => match full[i]? with | some y => x == y | none => false) i l = (l == m)
 | i, [], [], _, _, _ => rfl
 | i, x :: l, y :: m, h, full, hf => by
  have h0 : full[i]? = some y := by have := hf 0; simpa using this.symm
  have ih := subs_all (i + 1) l m (by simpa using h) full (fun j => by have := hf (j + 1); rw [show i + 1 + j = i + (j + 1) by omega]; simpa using this)
  show ((match full[i]? with | some y => x == y | none => false) && _) = _
  rw [ih, h0]
  rfl

theorem f28 (k : Nat) (x y : Sl Str) (hl : (Sl.l x).length ≤ 200000) (hk : 200100 ≤ k) : F28 k x y = some (Sl.l x == Sl.l y) := by
 unfold F28
 by_cases he : (Sl.l x).length = (Sl.l y).length
 ·have hloop := all_loop0 (Sl.l x) (fun i s => match (Sl.l y)[i]? with | some z => s == z | none => false) (F28_L0 k x y (Sl.len x)) (by
   intro n i s hs
   have hi := lt_of hs
   have hy : (Sl.l y)[i]? = some (Sl.l y)[i] := List.getElem?_eq_getElem (by omega)
   rw [F28_L0, if_pos (decide_eq_true (by simp only [Sl.len]; omega)), bnd (at_of hs), bnd (at_of hy), ad_nat (by omega)]
   simp only [hy]
   cases s == (Sl.l y)[i] <;> rfl) (by
   intro n; rw [F28_L0, if_neg (by simp [Sl.len])]) (n := k) (by omega)
  rw [subs_all 0 (Sl.l x) (Sl.l y) he (Sl.l y) (fun j => by rw [Nat.zero_add])] at hloop
  rw [if_neg (by simp [Sl.len, he]), bnd hloop]
  exact out_all
 ·rw [if_pos (by simp only [Sl.len, bne_iff_ne, ne_eq]; omega)]
  have : (Sl.l x == Sl.l y) = false := by rw [beq_eq_false_iff_ne]; intro h; exact he (by rw [h])
  rw [this]

theorem f27 : ∀ (n k : Nat) (f g : Fil), fewP n f → fewP n g → n + 200110 ≤ k → k < 400000000000000 → F27 k f g = some (sameS n f g)
 | 0, k, f, g, h, _, _, _ => h.elim
 | n + 1, 0, f, g, _, _, hk, _ => by omega
 | n + 1, k + 1, f, g, h, hg, hk, hk2 => by
  obtain ⟨h1, h2, h3, h4, h5, h6⟩ := h
  obtain ⟨g1, g2, g3, g4, g5, g6⟩ := hg
  have hsub := f28 k f.Subs g.Subs h4 (by omega)
  have hkids : F49_27 k (F27 k) f.Kids g.Kids = some (decide ((Sl.l f.Kids).length = (Sl.l g.Kids).length) && allFrom (fun i x => match (Sl.l g.Kids)[i]? with | some y => sameS n x y | none => false) 0 (Sl.l f.Kids)) := by
   unfold F49_27
   by_cases he : (Sl.l f.Kids).length = (Sl.l g.Kids).length
   ·have hloop := all_loop0 (Sl.l f.Kids) (fun i x => match (Sl.l g.Kids)[i]? with | some y => sameS n x y | none => false) (F49_27_L0 (F27 k) k g.Kids f.Kids (Sl.len f.Kids)) (by
     intro m i s hs
     have hi := lt_of hs
     have hy : (Sl.l g.Kids)[i]? = some (Sl.l g.Kids)[i] := List.getElem?_eq_getElem (by omega)
     rw [F49_27_L0, if_pos (decide_eq_true (by simp only [Sl.len]; omega)), bnd (at_of hs), bnd (at_of hy), ad_nat (by omega), bnd (f27 n k s _ (h6 s (mem_of_get hs)) (g6 _ (mem_of_get hy)) (by omega) (by omega))]
     simp only [hy]
     cases sameS n s (Sl.l g.Kids)[i] <;> rfl) (by
     intro m; rw [F49_27_L0, if_neg (by simp [Sl.len])]) (n := k) (by omega)
    rw [if_neg (by simp [Sl.len, he]), bnd hloop, decide_eq_true he, Bool.true_and]
    exact out_all
   ·rw [if_pos (by simp only [Sl.len, bne_iff_ne, ne_eq]; omega), decide_eq_false he, Bool.false_and]
  rw [F27, hsub, hkids]
  simp only [Option.bind_some, sameS]
  have ek : (f.Kind == g.Kind) = decide (f.Kind = g.Kind) := by rw [Bool.eq_iff_iff, beq_iff_eq, decide_eq_true_eq]
  rw [ek]
  cases decide (f.Kind = g.Kind) <;> cases (f.Attr == g.Attr) <;> cases (f.Value == g.Value) <;> cases (Sl.l f.Subs == Sl.l g.Subs) <;> simp

theorem f20 : ∀ (n k : Nat) (f g : Fil), fewP n f → fewP n g → n + 200110 ≤ k → k < 400000000000000 → F20 k f g = some (sameS n f g)
 | 0, k, f, g, h, _, _, _ => h.elim
 | n + 1, 0, f, g, _, _, hk, _ => by omega
 | n + 1, k + 1, f, g, h, hg, hk, hk2 => by
  obtain ⟨h1, h2, h3, h4, h5, h6⟩ := h
  obtain ⟨g1, g2, g3, g4, g5, g6⟩ := hg
  rw [F20]
  simp only [sameS]
  have ek : (f.Kind != g.Kind) = !decide (f.Kind = g.Kind) := by rw [Bool.eq_iff_iff, bne_iff_ne, Bool.not_eq_true', decide_eq_false_iff_not]
  have es : (Sl.len f.Subs != Sl.len g.Subs) = !decide ((Sl.l f.Subs).length = (Sl.l g.Subs).length) := by rw [Bool.eq_iff_iff, bne_iff_ne, Bool.not_eq_true', decide_eq_false_iff_not]; simp only [Sl.len]; omega
  have ekd : (Sl.len f.Kids != Sl.len g.Kids) = !decide ((Sl.l f.Kids).length = (Sl.l g.Kids).length) := by rw [Bool.eq_iff_iff, bne_iff_ne, Bool.not_eq_true', decide_eq_false_iff_not]; simp only [Sl.len]; omega
  rw [ek, es, ekd]
  by_cases he : (Sl.l f.Subs).length = (Sl.l g.Subs).length
  ·by_cases hq : (Sl.l f.Kids).length = (Sl.l g.Kids).length
   ·have hl0 := all_loop0 (Sl.l f.Subs) (fun i s => match (Sl.l g.Subs)[i]? with | some z => s == z | none => false) (F20_L0 (F20 k) k g f) (by
     intro m i s hs
     have hi := lt_of hs
     have hy : (Sl.l g.Subs)[i]? = some (Sl.l g.Subs)[i] := List.getElem?_eq_getElem (by omega)
     rw [F20_L0, if_pos (decide_eq_true (by simp only [Sl.len]; omega)), bnd (at_of hs), bnd (at_of hy), ad_nat (by omega)]
     simp only [hy]
     cases s == (Sl.l g.Subs)[i] <;> rfl) (by
     intro m; rw [F20_L0, if_neg (by simp [Sl.len])]) (n := k) (by omega)
    rw [subs_all 0 _ _ he (Sl.l g.Subs) (fun j => by rw [Nat.zero_add])] at hl0
    have hl2 := all_loop0 (Sl.l f.Kids) (fun i x => match (Sl.l g.Kids)[i]? with | some y => sameS n x y | none => false) (F20_L2 (F20 k) k g f) (by
     intro m i s hs
     have hi := lt_of hs
     have hy : (Sl.l g.Kids)[i]? = some (Sl.l g.Kids)[i] := List.getElem?_eq_getElem (by omega)
     rw [F20_L2, if_pos (decide_eq_true (by simp only [Sl.len]; omega)), bnd (at_of hs), bnd (at_of hy), ad_nat (by omega), bnd (f20 n k s _ (h6 s (mem_of_get hs)) (g6 _ (mem_of_get hy)) (by omega) (by omega))]
     simp only [hy]
     cases sameS n s (Sl.l g.Kids)[i] <;> rfl) (by
     intro m; rw [F20_L2, if_neg (by simp [Sl.len])]) (n := k) (by omega)
    rw [decide_eq_true he, decide_eq_true hq]
    simp only [Bool.not_true, Bool.or_false, Bool.and_true]
    rw [bnd hl0, bnd hl2]
    cases decide (f.Kind = g.Kind) <;> cases (f.Attr == g.Attr) <;> cases (f.Value == g.Value) <;> cases (Sl.l f.Subs == Sl.l g.Subs) <;> cases allFrom (fun i x => match (Sl.l g.Kids)[i]? with | some y => sameS n x y | none => false) 0 (Sl.l f.Kids) <;> rfl
   ·rw [decide_eq_false hq]
    simp
  ·have : (Sl.l f.Subs == Sl.l g.Subs) = false := by rw [beq_eq_false_iff_ne]; intro h; exact he (by rw [h])
   rw [decide_eq_false he, this]
   simp
end Go.Proofs.YtbinlabnilidiaaDoor.M
