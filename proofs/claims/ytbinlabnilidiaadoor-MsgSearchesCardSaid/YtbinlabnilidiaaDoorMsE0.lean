/- Elements of messages: what is well formed, how deep, the bytes. -/
import Derived.Test.YtbinlabnilidiaaDoorMsX
namespace Go.Proofs.YtbinlabnilidiaaDoor.M
open Go Go.Pam
set_option maxRecDepth 20000
set_option linter.unusedVariables false
set_option linter.unusedSimpArgs false

abbrev El := Api_Element
def lenS (n : Nat) : Str := if n < 128 then [UInt8.ofNat n] else if n < 256 then [129, UInt8.ofNat n] else [130, UInt8.ofNat (n / 256), UInt8.ofNat n]

theorem len_all (k : Nat) : (List.range 4001).all (fun n => (F35 k n == some (lenS n)) && (R64 (k + 9) n == some (lenS n))) = true := by kernel_rfl

theorem len_ok (k n : Nat) (hk : 9 ≤ k) (hn : n ≤ 4000) : F35 k n = some (lenS n) ∧ R64 k n = some (lenS n) := by
 have h1 := List.all_eq_true.1 (len_all k) n (by simp; omega)
 have h2 := List.all_eq_true.1 (len_all (k - 9)) n (by simp; omega)
 rw [show k - 9 + 9 = k by omega] at h2
 simp only [Bool.and_eq_true, beq_iff_eq] at h1 h2
 exact ⟨h1.1, h2.2⟩
end Go.Proofs.YtbinlabnilidiaaDoor.M
