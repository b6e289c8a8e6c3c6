/- Messages: what spoils one. -/
import Derived.Test.YtbinlabnilidiaaGreatDoorMDz
import Derived.Test.YtbinlabnilidiaaGreatDoorMsF
namespace Go.Proofs.YtbinlabnilidiaaGreatDoor.M
open Go Go.Pam
set_option maxRecDepth 20000
set_option linter.unusedVariables false
set_option linter.unusedSimpArgs false

theorem opS_of {a : Ms} (h : opS a = true) : (a.Op = 1 → 1 ≤ a.Version ∧ a.Version ≤ 127) ∧ (a.Op = 3 → 0 ≤ a.Scope ∧ a.Scope ≤ 2 ∧ 0 ≤ a.Size) ∧ (a.Op = 9 → 0 ≤ a.Code ∧ a.Code ≤ 127) ∧ 1 ≤ a.Op ∧ a.Op ≤ 10 := by
 unfold opS at h
 by_cases h1 : a.Op = 1
 ·rw [if_pos h1, Bool.and_eq_true, decide_eq_true_eq, decide_eq_true_eq] at h
  refine ⟨fun _ => h, fun _ => ?_, fun _ => ?_, ?_⟩ <;> omega
 rw [if_neg h1] at h
 by_cases h3 : a.Op = 3
 ·rw [if_pos h3] at h
  simp only [Bool.and_eq_true, decide_eq_true_eq] at h
  refine ⟨fun _ => ?_, fun _ => ?_, fun _ => ?_, ?_⟩ <;> omega
 rw [if_neg h3] at h
 by_cases h4 : a.Op = 4
 ·refine ⟨fun _ => ?_, fun _ => ?_, fun _ => ?_, ?_⟩ <;> omega
 rw [if_neg h4] at h
 by_cases h5 : a.Op = 5 ∨ a.Op = 10
 ·refine ⟨fun _ => ?_, fun _ => ?_, fun _ => ?_, ?_⟩ <;> omega
 rw [if_neg h5] at h
 by_cases h9 : a.Op = 9
 ·rw [if_pos h9] at h
  simp only [Bool.and_eq_true, decide_eq_true_eq] at h
  refine ⟨fun _ => ?_, fun _ => ?_, fun _ => ?_, ?_⟩ <;> omega
 rw [if_neg h9, Bool.and_eq_true, decide_eq_true_eq, decide_eq_true_eq] at h
 refine ⟨fun _ => ?_, fun _ => ?_, fun _ => ?_, ?_⟩ <;> omega

theorem isM_of {a : Ms} (h : isM a = true) : 0 ≤ a.ID ∧ a.ID ≤ 2147483647 ∧ msgEq a (coreS a) = true ∧ opS a = true := by
 unfold isM at h
 simp only [Bool.and_eq_true, decide_eq_true_eq] at h
 exact ⟨h.1.1.1.1, h.1.1.1.2, h.1.1.2, h.2⟩

abbrev eM (a : Ms) : PV := .agg [(.int .i64 a.ID), (.int .i64 a.Op), (.int .i64 a.Of), (.str a.DN), (.int .i64 a.Version), (.str a.Pass), (.int .i64 a.Scope), (.int .i64 a.Size), (.int .i64 a.Filter.Kind), (.str a.Filter.Attr), (.str a.Filter.Value), (encSl eS a.Filter.Subs), (encSl e_Api_Filter a.Filter.Kids), (encSl eS a.Wants), (encSl e_Api_Mod a.Mods), (.str a.RDN), (.bool a.DelOld), (.bool a.HasSup), (.str a.Sup), (.str a.Attr), (.str a.Value), (.int .i64 a.Code), (.str a.Matched)]
end Go.Proofs.YtbinlabnilidiaaGreatDoor.M
