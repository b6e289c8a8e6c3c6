/- Messages: what spoils one. -/
import Derived.Test.YtbinlabnilidiaaDoorMsX
import Derived.Test.YtbinlabnilidiaaDoorMsF
namespace Go.Proofs.YtbinlabnilidiaaDoor.M
open Go Go.Pam
set_option maxRecDepth 20000
set_option linter.unusedVariables false
set_option linter.unusedSimpArgs false

theorem opS_of {a : Ms} (h : opS a = true) : (a.Op = 1 → 1 ≤ a.Version ∧ a.Version ≤ 127) ∧ (a.Op = 3 → 0 ≤ a.Scope ∧ a.Scope ≤ 2 ∧ 0 ≤ a.Size) ∧ (a.Op = 9 → 0 ≤ a.Code ∧ a.Code ≤ 127) ∧ 1 ≤ a.Op ∧ a.Op ≤ 10 := by
 unfold opS at h
 by_cases h1 : a.Op = 1
 ·rw [if_pos h1, Bool.and_eq_true, decide_eq_true_eq, decide_eq_true_eq] at h
  refine ⟨fun _ => h, fun _ => ?_, fun _ => ?_, ?_⟩ <;> omega
 rw [if_neg h1] at h
 by_cases h3 : a.Op = 3
 ·rw [if_pos h3] at h
  simp only [Bool.and_eq_true, decide_eq_true_eq] at h
  refine ⟨fun _ => ?_, fun _ => ?_, fun _ => ?_, ?_⟩ <;> omega
 rw [if_neg h3] at h
 by_cases h4 : a.Op = 4
 ·refine ⟨fun _ => ?_, fun _ => ?_, fun _ => ?_, ?_⟩ <;> omega
 rw [if_neg h4] at h
 by_cases h5 : a.Op = 5 ∨ a.Op = 10
 ·refine ⟨fun _ => ?_, fun _ => ?_, fun _ => ?_, ?_⟩ <;> omega
 rw [if_neg h5] at h
 by_cases h9 : a.Op = 9
 ·rw [if_pos h9] at h
  simp only [Bool.and_eq_true, decide_eq_true_eq] at h
  refine ⟨fun _ => ?_, fun _ => ?_, fun _ => ?_, ?_⟩ <;> omega
 rw [if_neg h9, Bool.and_eq_true, decide_eq_true_eq, decide_eq_true_eq] at h
 refine ⟨fun _ => ?_, fun _ => ?_, fun _ => ?_, ?_⟩ <;> omega

theorem isM_of {a : Ms} (h : isM a = true) : 0 ≤ a.ID ∧ a.ID ≤ 2147483647 ∧ msgEq a (coreS a) = true ∧ opS a = true := by
 unfold isM at h
 simp only [Bool.and_eq_true, decide_eq_true_eq] at h
 exact ⟨h.1.1.1.1, h.1.1.1.2, h.1.1.2, h.2⟩

end Go.Proofs.YtbinlabnilidiaaDoor.M
