/- Messages: MsgResults. -/
import Derived.Test.YtbinlabnilidiaaDoorMsBk
namespace Go.Proofs.YtbinlabnilidiaaDoor.M
open Go Go.Pam
set_option maxRecDepth 20000
set_option linter.unusedVariables false
set_option linter.unusedSimpArgs false

theorem enc_ok {k : Nat} (hk : 200200 ≤ k) (hk2 : k < 400000000000000) {a : Ms} (ha : Few a) (hi : isM a = true) (hs : szS 28 (msgE a) ≤ 4000) (hd : Dpt 20 (msgE a)) :
  ∃ (b : Str) (d : Nat), F6 k a = some (b, 0) ∧ encS a d = (b, 0) ∧ (isM a = true → ∀ n, Dpt n (msgE a) ↔ d ≤ n) := by
 obtain ⟨d, e1, _, e3⟩ := enc_both hk hk2 ha
 have hF := fine_msg ha (op_of hi)
 have hb := bytes_sz 28 (msgE a) hF.few
 cases hc : bytesS 28 (msgE a) with
 | none => rw [hc] at hb; simp only at hb; omega
 | some b =>
  rw [hc] at hb; simp only at hb
  have := encS_mk hi hc (by omega) ((e3 hi 20).1 hd)
  exact ⟨b, d, by rw [e1, this], this, e3⟩

theorem isM_mk {a : Ms} (ha : Few a) (h1 : 0 ≤ a.ID ∧ a.ID ≤ 2147483647) (h2 : nM a = nM (coreS a)) (h3 : textsS (ownS a) = true) (h4 : opS a = true) : isM a = true := by
 unfold isM
 rw [(msgEq_nM ha.filter).2 h2, h3, h4, decide_eq_true h1.1, decide_eq_true h1.2]
 rfl

theorem dpt_tx {n : Nat} {t : Int} {s : Str} : Dpt (n + 1) (tx t s) := fun x hx => nomatch hx
theorem dpt_nm {n : Nat} {t v : Int} : Dpt (n + 1) (nm t v) := fun x hx => nomatch hx

theorem rem_eq {a n : Int} (h : 0 ≤ a) (hn : 0 < n) : rem? a n = some (a % n) := by
 unfold rem?; rw [if_neg (by omega), Int.tmod_eq_emod_of_nonneg h]

end Go.Proofs.YtbinlabnilidiaaDoor.M
