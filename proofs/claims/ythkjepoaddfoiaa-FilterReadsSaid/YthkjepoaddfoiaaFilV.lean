/- FilterReads from its plain form. -/
import Derived.Test.YthkjepoaddfoiaaFilU
import Derived.Test.YthkjepoaddfoiaaFilK
import Derived.Test.YthkjepoaddfoiaaFDs
import Derived.Test.YthkjepoaddfoiaaFDo
namespace Go.Proofs.Ythkjepoaddfoiaa.M
open Go Go.Pam
set_option maxRecDepth 20000
set_option linter.unusedVariables false
set_option linter.unusedSimpArgs false

theorem empty_same {k : Nat} (hk : 200300 ≤ k) (hk2 : k < 1000000) : F17 k (Api_Filter.mk 0 [] [] none none) (Api_Filter.mk 0 [] [] none none) = some true := by
  have hf : fewP 1 (Api_Filter.mk 0 [] [] none none) := ⟨by simp [Sl.l], by simp, by simp, by simp [Sl.l], (fun v hv => by cases hv), (fun g hg => by cases hg)⟩
  rw [f17 1 k _ _ hf hf (by omega) hk2]
  rfl

theorem is_of {k n : Nat} {f : Fil} (hf : fewP n f) (hi : isS n f = true) (hc : cS n f ≤ 20) (hk : n + 200110 ≤ k) (hk2 : k < 1000000) : F12 k f = some true ∧ F13 k f = some (prS n f) ∧ F11 k f = some (prS n f) := by
  have e14 := f14 n k f hf (by omega)
  have e23 := f23 n k f hf (by omega) hk2
  have hI : F12 k f = some true := by
    unfold F12
    rw [bnd e14, if_pos (decide_eq_true hc), bnd e23, hi]
    rfl
  refine ⟨hI, ?_, f11 n k f hf hi hc hk hk2⟩
  unfold F13
  rw [bnd hI, if_neg (by simp), bnd (f24 n k f hf hi hc hk hk2)]

theorem f19 {s : Str} (hs : s.length ≤ 160000) {k : Nat} (hk : 200300 ≤ k) (hk2 : k < 1000000) : F19 k s = some true := by
  unfold F19
  rcases f18 hs hk hk2 with h | ⟨f, h, h1, h2, h3, h4, h5⟩
  · rw [bnd h, if_pos (by simp), if_pos (by simp), bnd (empty_same hk hk2)]
    rfl
  · obtain ⟨q1, q2, q3⟩ := is_of h1 h2 h3 (show 22 + 200110 ≤ k by omega) hk2
    rw [h4] at q2 q3
    rw [bnd h, if_neg (by simp)]
    simp only
    rw [bnd q1, if_pos rfl, bnd q2]
    simp only [Option.bind_some, beq_self_eq_true, if_true]
    rw [bnd q3]
    simp

theorem F5_true (s : Str) : F5 300000 s = some true := by
  unfold F5
  rw [bnd known7, if_neg (by simp)]
  by_cases h : decide (Str.len s > 300) = true
  · rw [if_pos h]
  · rw [if_neg h, bnd (f19 (s := s) (by
      have := fun h' => h (decide_eq_true h')
      simp only [Str.len] at this
      have h3 : ¬ ((s.length : Int) > 300) := this
      omega) (by omega) (by omega))]

theorem filterReads_true (a0 : Str) (o0 : a0.length ≤ maxLen) : evw env 5 [.str a0] [] = some (.bool true, [], false) := by
  refine s5 300000 (F5_true a0) ?_ []
  simp only [List.map_cons, List.map_nil, st_str]
end Go.Proofs.Ythkjepoaddfoiaa.M
