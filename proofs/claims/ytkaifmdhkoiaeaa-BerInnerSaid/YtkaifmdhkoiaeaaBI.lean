/- Part of the proof: the runs of functions on the abstract machine. -/
import Derived.Test.YtkaifmdhkoiaeaaD1
namespace Go.Proofs.Ytkaifmdhkoiaeaa.M
open Go Go.Pam
set_option maxRecDepth 10000
theorem F10_true : F10 40 = some true := by kernel_rfl
theorem rem_small {a : Int} (h0 : 0 ≤ a) {n : Nat} (hn : 0 < n) : ∃ m : Nat, m < n ∧ rem? a n = some (m : Int) := by
  refine ⟨(a.tmod n).toNat, ?_, ?_⟩
  · rw [Int.tmod_eq_emod_of_nonneg h0]; have := Int.emod_lt_of_pos a (b := n) (by omega); have := Int.emod_nonneg a (b := n) (by omega); omega
  · unfold rem?; rw [if_neg (by omega), Int.tmod_eq_emod_of_nonneg h0]; have := Int.emod_nonneg a (b := n) (by omega); congr 1; omega
theorem F9_true (a0 a1 a2 : Int) (h0 : 0 ≤ a0) (h2 : 0 ≤ a2) : F9 40 a0 a1 a2 = some true := by
  obtain ⟨m, hm, e1'⟩ := rem_small h0 (n := 10) (by decide)
  obtain ⟨q, hq, e2'⟩ := rem_small h2 (n := 4) (by decide)
  unfold F9
  rw [F10_true]
  have e1 : rem? a0 10 = some (m : Int) := e1'
  have e2 : rem? a2 4 = some (q : Int) := e2'
  rw [e1, e2]
  clear e1 e2 e1' e2'
  have hq' : q = 0 ∨ q = 1 ∨ q = 2 ∨ q = 3 := by omega
  have hm' : m = 0 ∨ m = 1 ∨ m = 2 ∨ m = 3 ∨ m = 4 ∨ m = 5 ∨ m = 6 ∨ m = 7 ∨ m = 8 ∨ m = 9 := by omega
  rcases hq' with rfl | rfl | rfl | rfl <;> rcases hm' with rfl | rfl | rfl | rfl | rfl | rfl | rfl | rfl | rfl | rfl <;> (change _ = some true; kernel_rfl)
end Go.Proofs.Ytkaifmdhkoiaeaa.M
namespace Go.Proofs.Ytkaifmdhkoiaeaa.M
open Go Go.Pam
theorem berInner_true (a0 a1 a2 : Int) (w0 : 0 ≤ a0 ∧ a0 ≤ 255) (w1 : 0 ≤ a1 ∧ a1 ≤ 255) (w2 : 0 ≤ a2 ∧ a2 ≤ 255) : evw env 9 [.int .u8 a0, .int .u8 a1, .int .u8 a2] [] = some (.bool true, [], false) :=
  s9 40 (F9_true a0 a1 a2 w0.1 w2.1) rfl []
end Go.Proofs.Ytkaifmdhkoiaeaa.M
