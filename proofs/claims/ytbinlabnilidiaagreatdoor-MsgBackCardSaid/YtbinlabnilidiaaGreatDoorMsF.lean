/- Messages: what is few. -/
import Derived.Test.YtbinlabnilidiaaGreatDoorMsS
import Derived.Test.YtbinlabnilidiaaGreatDoorMsFw
namespace Go.Proofs.YtbinlabnilidiaaGreatDoor.M
open Go Go.Pam
set_option maxRecDepth 20000
set_option linter.unusedVariables false
set_option linter.unusedSimpArgs false

theorem fewP_up : ∀ (n m : Nat) (f : Fil), n ≤ m → fewP n f → fewP m f
 | 0, _, _, _, h => h.elim
 | n + 1, 0, _, h, _ => by omega
 | n + 1, m + 1, f, h, hf => by
  rw [fewP] at hf ⊢
  obtain ⟨h1, h2, h3, h4, h5, h6⟩ := hf
  exact ⟨h1, h2, h3, h4, h5, fun g hg => fewP_up n m g (by omega) (h6 g hg)⟩

theorem adN {i : Nat} (h : i + 1 < 9223372036854775808) : ad .i64 (i : Int) 1 = ((i + 1 : Nat) : Int) := by rw [ad64 (by omega)]; omega

theorem f8i {k : Nat} (hk : 300 ≤ k) (a : Ms) (i : Nat) (m : Api_Mod) (hm : (Sl.l a.Mods)[i]? = some m) (hv : (Sl.l m.Values).length ≤ 14) :
  F8_L4 k (i : Int) a k 0 = some (if (Sl.l m.Values).all (fun s => decide (s.length ≤ 500)) = true then .brk (((Sl.l m.Values).length : Nat) : Int) else .ret false) := by
 have h := all_loop0 (Sl.l m.Values) (fun _ s => decide (s.length ≤ 500)) (F8_L4 k (i : Int) a) (by
  intro n j y hy
  have hj := lt_of hy
  have e : decide (Str.len y > 500) = !decide (y.length ≤ 500) := by
   rw [Bool.eq_iff_iff, decide_eq_true_eq, Bool.not_eq_true', decide_eq_false_iff_not]; simp only [Str.len]; omega
  rw [F8_L4, bnd (at_of hm), if_pos (decide_eq_true (by simp only [Sl.len]; omega)), bnd (at_of hm), bnd (at_of hy), e, ad_nat (by omega)]
  cases decide (y.length ≤ 500) <;> rfl) (by
  intro n; rw [F8_L4, bnd (at_of hm), if_neg (by simp [Sl.len])]) (n := k) (by omega)
 rw [allFrom_all] at h
 exact h

def fewMod (m : Api_Mod) : Bool := decide (m.Attr.length ≤ 500) && decide ((Sl.l m.Values).length ≤ 14) && (Sl.l m.Values).all fun s => decide (s.length ≤ 500)

theorem fewMod_of {m : Api_Mod} (h : fewMod m = true) : modFew m := by
 unfold fewMod at h
 simp only [Bool.and_eq_true, decide_eq_true_eq, List.all_eq_true] at h
 exact ⟨h.1.1, h.1.2, h.2⟩

theorem f8 {k : Nat} (hk : 200200 ≤ k) (a : Ms) (hM : (Sl.l a.Mods).length < k) (hM2 : (Sl.l a.Mods).length ≤ 9223372036854775807) : ∃ b, F8 k a = some b ∧ (b = true → Few a) := by
 unfold F8
 by_cases hg : (((((((decide ((Str.len a.DN) > 500)) || (decide ((Str.len a.Pass) > 500))) || (decide ((Str.len a.RDN) > 500))) || (decide ((Str.len a.Sup) > 500))) || (decide ((Str.len a.Attr) > 500))) || (decide ((Str.len a.Value) > 500))) || (decide ((Str.len a.Matched) > 500)) || (decide ((Sl.len a.Wants) > 14))) = true
 ·rw [if_pos hg]; exact ⟨false, rfl, fun h => by cases h⟩
 rw [if_neg hg]
 simp only [Bool.or_eq_true, decide_eq_true_eq, not_or] at hg
 simp only [Sl.len, Str.len] at hg
 obtain ⟨⟨⟨⟨⟨⟨⟨g1, g2⟩, g3⟩, g4⟩, g5⟩, g6⟩, g7⟩, g8⟩ := hg
 have h0 := all_loop0 (Sl.l a.Wants) (fun _ s => decide (s.length ≤ 500)) (F8_L0 k a) (by
  intro n j y hy
  have hj := lt_of hy
  have e : decide (Str.len y > 500) = !decide (y.length ≤ 500) := by
   rw [Bool.eq_iff_iff, decide_eq_true_eq, Bool.not_eq_true', decide_eq_false_iff_not]; simp only [Str.len]; omega
  rw [F8_L0, if_pos (decide_eq_true (by simp only [Sl.len]; omega)), bnd (at_of hy), e, ad_nat (by omega)]
  cases decide (y.length ≤ 500) <;> rfl) (by
  intro n; rw [F8_L0, if_neg (by simp [Sl.len])]) (n := k) (by omega)
 rw [allFrom_all] at h0
 have h2 := all_loop0 (Sl.l a.Mods) (fun _ m => fewMod m) (F8_L2 k a) (by
  intro n j y hy
  have hj := lt_of hy
  have e : decide (Str.len y.Attr > 500) = !decide (y.Attr.length ≤ 500) := by
   rw [Bool.eq_iff_iff, decide_eq_true_eq, Bool.not_eq_true', decide_eq_false_iff_not]; simp only [Str.len]; omega
  have e2 : decide (Sl.len y.Values > 14) = !decide ((Sl.l y.Values).length ≤ 14) := by
   rw [Bool.eq_iff_iff, decide_eq_true_eq, Bool.not_eq_true', decide_eq_false_iff_not]; simp only [Sl.len]; omega
  rw [F8_L2, if_pos (decide_eq_true (by simp only [Sl.len]; omega)), bnd (at_of hy), e, at_of hy, adN (by omega)]
  unfold fewMod
  by_cases c1 : y.Attr.length ≤ 500
  ·rw [decide_eq_true c1]
   simp only [Bool.not_true, Bool.false_eq_true, if_false, Option.bind_some, e2]
   by_cases c2 : (Sl.l y.Values).length ≤ 14
   ·rw [decide_eq_true c2]
    simp only [Bool.not_true, Bool.false_eq_true, if_false]
    rw [bnd (f8i (by omega) a j y hy c2)]
    cases (Sl.l y.Values).all (fun s => decide (s.length ≤ 500)) <;> rfl
   ·rw [decide_eq_false c2]; rfl
  ·rw [decide_eq_false c1]; rfl) (by
  intro n; rw [F8_L2, if_neg (by simp [Sl.len])]) (n := k) (by omega)
 rw [allFrom_all] at h2
 rw [bnd h0]
 cases w0 : (Sl.l a.Wants).all (fun s => decide (s.length ≤ 500)) with
 | false => exact ⟨false, rfl, fun h => by cases h⟩
 | true =>
  simp only [if_true]
  rw [bnd h2]
  cases m0 : (Sl.l a.Mods).all (fun m => fewMod m) with
  | false => exact ⟨false, rfl, fun h => by cases h⟩
  | true =>
   simp only [if_true]
   by_cases c : Sl.len a.Mods ≤ 14
   ·rw [if_pos (decide_eq_true c)]
    obtain ⟨b, hb, hb2⟩ := f17 13 k a.Filter 0 (by omega) (by omega)
    have hb : F17 k a.Filter 0 = some b := hb
    rw [hb]
    refine ⟨b, rfl, fun h => ?_⟩
    simp only [List.all_eq_true, decide_eq_true_eq] at w0
    simp only [List.all_eq_true] at m0
    simp only [Sl.len] at c
    exact ⟨by omega, by omega, by omega, by omega, by omega, by omega, by omega, by omega, w0, by omega, fun m hm => fewMod_of (m0 m hm), fewP_up 13 22 _ (by omega) (hb2 h)⟩
   ·rw [if_neg (by simpa using c)]
    exact ⟨false, rfl, fun h => by cases h⟩

end Go.Proofs.YtbinlabnilidiaaGreatDoor.M
