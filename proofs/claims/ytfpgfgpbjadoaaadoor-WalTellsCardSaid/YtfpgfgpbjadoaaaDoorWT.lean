/- WalTells: the plain law. -/
import Derived.Test.YtfpgfgpbjadoaaaDoorWP2
import Derived.Test.YtfpgfgpbjadoaaaDoorWDt
namespace Go.Proofs.YtfpgfgpbjadoaaaDoor.M
set_option linter.unusedVariables false
set_option linter.unusedSimpArgs false
open Go Go.Pam
set_option maxRecDepth 4000
theorem F3_true (a b : Str) : F3 100000 a b = some true := by
  unfold F3
  rw [bnd (show F7 100000 = some true from rfl), if_neg (by decide)]
  by_cases h : (decide ((Str.len a) > 2000) || decide ((Str.len b) > 2000)) = true
  · rw [if_pos h]
  rw [if_neg h]
  have h1 : a.length ≤ 2000 ∧ b.length ≤ 2000 := by
    simp only [Bool.or_eq_true, decide_eq_true_eq, not_or] at h
    rw [Str.len_nat, Str.len_nat] at h
    omega
  obtain ⟨X, e1, l1⟩ := F8_eq 100000 a (by omega) (by omega)
  obtain ⟨Y, e2, l2⟩ := F9_eq 100000 a (by omega) (by omega)
  have hb : X.l.length < 100000 := by rw [l1]; exact scan_len _ _ _ (by omega)
  rw [bnd e1, bnd e2, bnd (F10_eq _ b (by omega) (by omega)), bnd (F11_eq _ b (by omega) (by omega)), if_pos (by simp), bnd (F12_eq _ b (by omega) (by omega)), bnd (F13_eq _ b (by omega) (by omega)), bind_some', if_pos (by simp),
    bnd (F14_same _ X Y (by rw [l1, l2]) (by omega) (by omega)), bind_some']
  simp
theorem walTells_true (a0 a1 : Str) (_ : a0.length ≤ maxLen) (_ : a1.length ≤ maxLen) : evw env 3 [.str a0, .str a1] [] = some (.bool true, [], false) := by
  refine s3 100000 (F3_true a0 a1) ?_ []
  simp only [List.map_cons, List.map_nil, st_str]
end Go.Proofs.YtfpgfgpbjadoaaaDoor.M
