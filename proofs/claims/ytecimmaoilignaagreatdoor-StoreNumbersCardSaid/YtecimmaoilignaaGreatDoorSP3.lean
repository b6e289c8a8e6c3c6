/- Plain laws of numbers: compared, told, read again. -/
import Derived.Test.YtecimmaoilignaaGreatDoorSW3
namespace Go.Proofs.YtecimmaoilignaaGreatDoor.M.L
set_option linter.unusedVariables false
set_option linter.unusedSimpArgs false
open Go Go.Pam
set_option maxRecDepth 4000
set_option linter.unusedSimpArgs false
def cmp1 (a b : Int) : Int := if a < b then -1 else if a > b then 1 else 0
theorem F60_eq (k : Nat) (a b : Int) : F60 k a b = some (cmp1 a b) := by
  unfold F60 F105 cmp1
  by_cases h1 : a < b
  · simp [h1]
  · by_cases h2 : a > b <;> simp [h1, h2]
theorem F61_eq (k : Nat) (a b : Int) : F61 k a b = some (cmp1 a b) := by
  unfold F61 F106 cmp1
  by_cases h1 : a < b
  · simp [h1]
  · by_cases h2 : a > b <;> simp [h1, h2]
def cmpC (a b : Api_CSN) : Int := if cmp1 a.Time b.Time ≠ 0 then cmp1 a.Time b.Time else if cmp1 a.Seq b.Seq ≠ 0 then cmp1 a.Seq b.Seq else cmp1 a.Rep b.Rep
theorem F59_eq (x y z : Int) : F59 10 (some [x, y, z]) = some (if x ≠ 0 then x else if y ≠ 0 then y else z) := by
  have a0 : Sl.at? (some [x, y, z]) 0 = some x := rfl
  have a1 : Sl.at? (some [x, y, z]) 1 = some y := rfl
  have a2 : Sl.at? (some [x, y, z]) 2 = some z := rfl
  have l : Sl.len (some [x, y, z]) = 3 := rfl
  have e1 : ad .i64 0 1 = 1 := by decide
  have e2 : ad .i64 1 1 = 2 := by decide
  have e3 : ad .i64 2 1 = 3 := by decide
  unfold F59
  rw [l]
  by_cases hx : x = 0
  · subst hx
    by_cases hy : y = 0
    · subst hy
      by_cases hz : z = 0
      · subst hz; rfl
      · simp [F59_L0, a0, a1, a2, e1, e2, e3, hz]
    · simp [F59_L0, a0, a1, a2, e1, e2, e3, hy]
  · simp [F59_L0, a0, a1, a2, e1, e2, e3, hx]
theorem F25_eq (a b : Api_CSN) : F25 10 a b = some (cmpC a b) := by
  unfold F25 cmpC
  rw [F60_eq, F61_eq, F61_eq]
  simp only [Option.bind_some, F59_eq]
/-- What is seen that is not greater changes nothing. -/
theorem F32_same (T q r j : Int) (hT : 0 ≤ T) (hq : 0 ≤ q) : F32 10 ⟨⟨T, q, r⟩⟩ ⟨0, 0, j⟩ = some ⟨⟨T, q, r⟩⟩ := by
  have h : cmpC ⟨0, 0, r⟩ ⟨T, q, r⟩ ≤ 0 := by
    unfold cmpC cmp1
    simp only
    split <;> split <;> (try split) <;> (try split) <;> omega
  unfold F32
  have h73 : ∃ b, F73 10 ⟨0, 0, j⟩ = some b := ⟨_, rfl⟩
  obtain ⟨b, hb⟩ := h73
  rw [hb, F25_eq]
  cases b <;> simp [decide_eq_false (show ¬ cmpC ⟨0, 0, r⟩ ⟨T, q, r⟩ > 0 by omega)]
theorem F32_new (T q r : Int) (hT : 0 ≤ T) (hT' : T ≤ 1099511627776) (hr : 0 ≤ r) (hr' : r < 6) : F32 10 ⟨⟨0, 0, r⟩⟩ ⟨T, 0, r⟩ = some ⟨⟨T, 0, r⟩⟩ := by
  have h73 : F73 10 ⟨T, 0, r⟩ = some true := by
    unfold F73
    simp [hT, hT', hr, hr']
  unfold F32
  rw [h73, F25_eq]
  simp only [Option.bind_some, if_true]
  by_cases h0 : T = 0
  · subst h0
    simp
  · have : cmpC ⟨T, 0, r⟩ ⟨0, 0, r⟩ > 0 := by
      have h1 : cmp1 T 0 = 1 := by unfold cmp1; rw [if_neg (by omega), if_pos (by omega)]
      unfold cmpC
      simp [h1]
    simp [this]
/-! A number's digits. -/
def isD (c : UInt8) : Prop := 48 ≤ c.toNat ∧ c.toNat ≤ 57
theorem digF_succ (f u : Nat) : digF (f + 1) u = if 10 ≤ u then digF f (u / 10) ++ [UInt8.ofNat (48 + u % 10)] else [UInt8.ofNat (48 + u)] := by
  have : digF (f + 1) u = match Nat.ble 10 u with | false => [UInt8.ofNat (48 + u)] | true => digF f (u / 10) ++ [UInt8.ofNat (48 + u % 10)] := rfl
  rw [this]
  by_cases h : 10 ≤ u
  · rw [if_pos h, show Nat.ble 10 u = true from Nat.ble_eq_true_of_le h]
  · rw [if_neg h, show Nat.ble 10 u = false by rw [Bool.eq_false_iff]; intro hc; exact h (Nat.le_of_ble_eq_true hc)]
theorem ofd (d : Nat) (h : d < 10) : (UInt8.ofNat (48 + d)).toNat = 48 + d := by rw [UInt8.toNat_ofNat']; omega
theorem pnum_snoc (x : Str) (d : Nat) (hd : d < 10) : ∀ a, pnum a (x ++ [UInt8.ofNat (48 + d)]) = (pnum a x).map fun n => 10 * n + d := by
  induction x with
  | nil => intro a; simp only [List.nil_append, pnum, ofd d hd, Option.map_some]; rw [if_pos (by omega)]; congr 1; omega
  | cons c x ih =>
    intro a
    rw [List.cons_append, pnum, pnum]
    split
    · exact ih _
    · rfl
theorem dig_is : ∀ (f u : Nat), u < 10 ^ f → pnum 0 (digF f u) = some u ∧ (∀ c ∈ digF f u, isD c) ∧ ((digF f u) = [] → f = 0)
  | 0, u, h => by
    have : u = 0 := by simp at h; omega
    subst this
    exact ⟨rfl, by simp [digF], fun _ => rfl⟩
  | f + 1, u, h => by
    rw [digF_succ]
    split
    · rename_i h10
      obtain ⟨h1, h2, h3⟩ := dig_is f (u / 10) (by rw [Nat.pow_succ] at h; omega)
      refine ⟨?_, ?_, by simp⟩
      · rw [pnum_snoc _ _ (by omega), h1]; simp; omega
      · intro c hc
        rcases List.mem_append.1 hc with hc | hc
        · exact h2 c hc
        · rw [List.mem_singleton] at hc; subst hc; unfold isD; rw [ofd _ (by omega)]; omega
    · rename_i h10
      refine ⟨?_, ?_, by simp⟩
      · have := pnum_snoc [] u (by omega) 0
        simpa [pnum] using this
      · intro c hc
        rw [List.mem_singleton] at hc; subst hc; unfold isD; rw [ofd _ (by omega)]; omega
theorem dig_len : ∀ (k f u : Nat), u < 10 ^ (k + 1) → (digF f u).length ≤ k + 1
  | k, 0, u, h => by simp [digF]
  | k, f + 1, u, h => by
    rw [digF_succ]
    split
    · cases k with
      | zero => simp at h; omega
      | succ k =>
        have := dig_len k f (u / 10) (by rw [Nat.pow_succ] at h; omega)
        rw [List.length_append]; simp; omega
    · simp
theorem itoa_ok (n : Nat) (h : n < 1000000000) : itoa? (n : Int) = some (digF 20 n) := by
  have : itoa? (n : Int) = match Nat.ble n 999999999999999999 with | true => some (digF 20 n) | false => none := rfl
  rw [this, show Nat.ble n 999999999999999999 = true from Nat.ble_eq_true_of_le (by omega)]
theorem dig_ok (n : Nat) (h : n < 1000000000) : pint? (digF 20 n) = some (n : Int) ∧ (∀ c ∈ digF 20 n, c ≠ 46) ∧ digF 20 n ≠ [] ∧ (digF 20 n).length ≤ 9 := by
  obtain ⟨h1, h2, h3⟩ := dig_is 20 n (by omega)
  have h4 := dig_len 8 20 n (by omega)
  have h5 : digF 20 n ≠ [] := fun hc => by have := h3 hc; omega
  refine ⟨?_, fun c hc he => ?_, h5, h4⟩
  · unfold pint?
    rw [if_pos ⟨by omega, h5⟩, h1]; rfl
  · have := h2 c hc
    subst he
    unfold isD at this
    have e : (46 : UInt8).toNat = 46 := rfl
    omega
/-- A number's text. -/
def txt (a b c : Nat) : Str := three (digF 20 a) (digF 20 b) (digF 20 c)
theorem txt_len (a b c : Nat) (ha : a < 1000000000) (hb : b < 1000000000) (hc : c < 1000000000) : (txt a b c).length ≤ 29 := by
  have h1 := (dig_ok a ha).2.2.2
  have h2 := (dig_ok b hb).2.2.2
  have h3 := (dig_ok c hc).2.2.2
  unfold txt three
  simp; omega
theorem F55_txt (k a b c : Nat) (ha : a < 1000000000) (hb : b < 1000000000) (hc : c < 1000000000) : F55 k ⟨a, b, c⟩ = some (txt a b c) := by
  have h1 := (dig_ok a ha).2.2.2
  have h2 := (dig_ok b hb).2.2.2
  have h3 := (dig_ok c hc).2.2.2
  unfold F55
  simp only [itoa_ok a ha, itoa_ok b hb, itoa_ok c hc, Option.bind_some]
  rw [Str.app?_ok (by simp; omega), Option.bind_some, Str.app?_ok (by simp; omega), Option.bind_some, Str.app?_ok (by simp; omega), Option.bind_some, Str.app?_ok (by simp; omega), Option.bind_some]
  simp [txt, three]
theorem isN_txt (a b c : Nat) (ha : a < 1000000000) (hb : b ≤ 65535) (hc : c < 6) : IsN (txt a b c, a, b, c) := by
  obtain ⟨a1, a2, a3, a4⟩ := dig_ok a ha
  obtain ⟨b1, b2, b3, b4⟩ := dig_ok b (by omega)
  obtain ⟨c1, c2, c3, c4⟩ := dig_ok c (by omega)
  have hl := txt_len a b c ha (by omega) (by omega)
  exact ⟨by show (txt a b c).length < 1000; omega, fun S => s110 a2 b2 c2 a3 b3 (by show (txt a b c).length < 1000000; omega) a1 b1 c1 (by omega) (by omega) (by omega) (F55_txt 0 a b c ha (by omega) (by omega)) S⟩
theorem F27_txt (k a b c : Nat) (ha : a < 1000000000) (hb : b < 1000000000) (hc : c < 1000000000) : F27 k ⟨a, b, c⟩ = some (82 :: txt a b c) := by
  have hl := txt_len a b c ha hb hc
  unfold F27
  rw [F55_txt k a b c ha hb hc, Option.bind_some, Str.app?_ok (by simp; omega)]; rfl
theorem F21_ok (s : Str) (h : s.length ≤ 50000) : F21 10 s = some (some [101 :: s]) := by
  have h1 : F21_L0 10 10 s none = some (s, none) := by
    rw [F21_L0, if_neg (by rw [Str.len_nat]; simp; omega)]
  unfold F21
  rw [h1, Option.bind_some, Str.app?_ok (by simp; omega), Option.bind_some]
  rfl
end Go.Proofs.YtecimmaoilignaaGreatDoor.M.L
