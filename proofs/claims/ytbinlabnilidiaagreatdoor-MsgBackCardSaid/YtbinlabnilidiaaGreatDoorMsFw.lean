/- Filters: what is few. -/
import Derived.Test.YtbinlabnilidiaaGreatDoorMDz
import Derived.Test.YtbinlabnilidiaaGreatDoorMsFb
namespace Go.Proofs.YtbinlabnilidiaaGreatDoor.M
open Go Go.Pam
set_option maxRecDepth 20000
set_option linter.unusedVariables false
set_option linter.unusedSimpArgs false

theorem f17 : ∀ (n k : Nat) (f : Fil) (d : Nat), d + n = 13 → n + 200100 ≤ k → ∃ b, F17 k f (d : Int) = some b ∧ (b = true → fewP n f)
 | n, 0, f, d, _, hk => by omega
 | n, k + 1, f, d, hd, hk => by
  rw [F17]
  by_cases hg : (((((decide ((d : Int) > 12)) || (decide ((Sl.len f.Kids) > 8))) || (decide ((Str.len f.Attr) > 30))) || (decide ((Str.len f.Value) > 80))) || (decide ((Sl.len f.Subs) > 24))) = true
  ·rw [if_pos hg]; exact ⟨false, rfl, fun h => by cases h⟩
  ·rw [if_neg hg]
   simp only [Bool.or_eq_true, decide_eq_true_eq, not_or] at hg
   simp only [Sl.len, Str.len] at hg
   obtain ⟨⟨⟨⟨g1, g2⟩, g3⟩, g4⟩, g5⟩ := hg
   obtain ⟨m, rfl⟩ : ∃ m, n = m + 1 := ⟨n - 1, by omega⟩
   have hs := all_loop0 (Sl.l f.Subs) (fun _ s => !decide (Str.len s > 80)) (F17_L0 (F17 k) k (d : Int) f) (by
    intro n i y hy
    have hi := lt_of hy
    rw [F17_L0, if_pos (decide_eq_true (by simp only [Sl.len]; omega)), bnd (at_of hy), ad_nat (by omega)]
    cases decide (Str.len y > 80) <;> rfl) (by
    intro n; rw [F17_L0, if_neg (by simp [Sl.len])]) (n := k) (by omega)
   have hkk := all_loop0 (Sl.l f.Kids) (fun _ g => (F17 k g (((d + 1 : Nat) : Int))).getD false) (F17_L2 (F17 k) k (d : Int) f) (by
    intro n i y hy
    have hi := lt_of hy
    obtain ⟨b, hb, _⟩ := f17 m k y (d + 1) (by omega) (by omega)
    rw [F17_L2, if_pos (decide_eq_true (by simp only [Sl.len]; omega)), bnd (at_of hy), ad_nat (show d < 9223372036854775000 by omega), bnd hb, ad_nat (by omega)]
    simp only [hb, Option.getD_some]
    cases b <;> rfl) (by
    intro n; rw [F17_L2, if_neg (by simp [Sl.len])]) (n := k) (by omega)
   rw [bnd hs]
   cases h1 : allFrom (fun _ s => !decide (Str.len s > 80)) 0 (Sl.l f.Subs) with
   | false => exact ⟨false, rfl, fun h => by cases h⟩
   | true =>
    simp only [if_true]
    rw [bnd hkk]
    cases h2 : allFrom (fun _ g => (F17 k g (((d + 1 : Nat) : Int))).getD false) 0 (Sl.l f.Kids) with
    | false => exact ⟨false, rfl, fun h => by cases h⟩
    | true =>
     refine ⟨true, rfl, fun _ => ⟨by omega, by omega, by omega, by omega, fun s hs' => ?_, fun g hg' => ?_⟩⟩
     ·obtain ⟨_, h⟩ := allFrom_mem h1 s hs'
      simp only [Bool.not_eq_true', decide_eq_false_iff_not] at h
      simp only [Str.len] at h
      omega
     ·obtain ⟨_, h⟩ := allFrom_mem h2 g hg'
      obtain ⟨b, hb, hb2⟩ := f17 m k g (d + 1) (by omega) (by omega)
      rw [hb, Option.getD_some] at h
      exact hb2 h

end Go.Proofs.YtbinlabnilidiaaGreatDoor.M
