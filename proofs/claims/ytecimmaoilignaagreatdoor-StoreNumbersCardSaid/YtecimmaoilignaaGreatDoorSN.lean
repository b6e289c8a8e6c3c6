/- Plain laws of the law's loop: the next number, what is kept. -/
import Derived.Test.YtecimmaoilignaaGreatDoorSW6
namespace Go.Proofs.YtecimmaoilignaaGreatDoor.M.L
open Go Go.Pam
set_option maxRecDepth 4000
set_option linter.unusedSimpArgs false
set_option linter.unusedVariables false
/-- The log of a store: what was written at first, then the reserves. -/
def logB (r : Nat) (ts : List Nm) : Str := recs (wrec r :: ts.map rrec)
theorem logB_snoc (r : Nat) (ts : List Nm) (t : Nm) : logB r (ts ++ [t]) = logB r ts ++ rec1 (rrec t) := by
  unfold logB
  rw [List.map_append, ← List.cons_append, recs_append]
  simp [recs]
theorem wrec_len (r : Nat) : (wrec r).length = 205 := by simp [wrec, rt_len]
theorem recs_small {r : Nat} {ts : List Nm} (hts : ∀ t ∈ ts, t.1.length ≤ 29) : ∀ b ∈ wrec r :: ts.map rrec, b.length ≤ 300 := by
  intro b hb
  rw [List.mem_cons, List.mem_map] at hb
  rcases hb with rfl | ⟨t, ht, rfl⟩
  · rw [wrec_len]; omega
  · have := hts t ht
    simp [rrec]; omega
theorem logB_len {r : Nat} {ts : List Nm} (hts : ∀ t ∈ ts, t.1.length ≤ 29) (hl : ts.length ≤ 40) : (logB r ts).length ≤ 20000 := by
  have := recs_len (recs_small (r := r) hts)
  have h2 : (wrec r :: ts.map rrec).length ≤ 41 := by simp; omega
  unfold logB; omega
theorem logB_scan {r : Nat} {ts : List Nm} (hts : ∀ t ∈ ts, t.1.length ≤ 29) (hl : ts.length ≤ 40) :
    F64 20001 (logB r ts) = some (some (wrec r :: ts.map rrec), ((logB r ts).length : Int), 0) := by
  have h1 := logB_len (r := r) hts hl
  obtain ⟨X, h2, h3⟩ := F64_eq 20001 (logB r ts) (by omega) (by omega)
  have h4 : scanN 20001 0 (logB r ts) = (wrec r :: ts.map rrec, 0 + (logB r ts).length, 0) := scan_all _ _ _ (by simp; omega) (recs_small hts)
  rw [h4] at h2 h3
  rw [h2]
  cases X with
  | none => cases h3
  | some l =>
    have : l = wrec r :: ts.map rrec := h3
    subst this
    simp
theorem lastB_snoc : ∀ (b : Int × Int × Int) (ts : List Nm) (t : Nm), lastB b (ts ++ [t]) = t.2
  | _, [], _ => rfl
  | _, x :: ts, t => lastB_snoc x.2 ts t
/-- The next number. -/
theorem next_plain {r T q : Nat} {now : Int} (hT : T ≤ 900000) (hq : q ≤ 1000) (hn : now ≤ 900000) :
    ∃ T' q' : Nat, F24 10 ⟨⟨T, q, r⟩⟩ now = some (⟨⟨T', q', r⟩⟩, ⟨T', q', r⟩, 0) ∧ now ≤ T' ∧ (T < T' ∧ q' = 0 ∨ T' = T ∧ q' = q + 1) ∧ T' ≤ 900000 ∧ (T' = T ∨ (T' : Int) = now) := by
  have e1 : ad .i64 (q : Int) 1 = ((q + 1 : Nat) : Int) := by rw [ad64 (by omega)]; omega
  by_cases h : now ≤ T
  · refine ⟨T, q + 1, ?_, h, .inr ⟨rfl, rfl⟩, hT, .inl rfl⟩
    unfold F24
    simp only [e1]
    have h1 : decide (((q + 1 : Nat) : Int) > 65535) = false := decide_eq_false (by omega)
    have h2 : decide (now > (T : Int)) = false := decide_eq_false (by omega)
    rw [h1, Bool.and_false, if_neg (by decide), h2, if_neg (by decide), Option.bind_some]
    simp only
    rw [if_neg (by simp; omega)]
  · obtain ⟨n, rfl⟩ : ∃ n : Nat, now = n := ⟨now.toNat, by omega⟩
    refine ⟨n, 0, ?_, Int.le_refl _, .inl ⟨by omega, rfl⟩, by omega, .inr rfl⟩
    unfold F24
    simp only [e1]
    have h1 : decide ((n : Int) ≤ (T : Int)) = false := decide_eq_false (by omega)
    have h2 : decide ((n : Int) > (T : Int)) = true := decide_eq_true (by omega)
    rw [h1, Bool.false_and, if_neg (by decide), h2, if_pos rfl, Option.bind_some]
    simp only
    rw [if_neg (by simp; omega)]
    rfl
theorem cmpC_gt (T q B r : Nat) : cmpC ⟨T, q, r⟩ ⟨B, 0, r⟩ > 0 ↔ B < T ∨ (T = B ∧ 0 < q) := by
  unfold cmpC cmp1
  simp only
  constructor
  · intro h
    split at h <;> (try split at h) <;> (try split at h) <;> (try split at h) <;> (try split at h) <;> (try split at h) <;> omega
  · rintro h
    repeat' split
    all_goals omega
theorem F9_ge {T q B r : Nat} (h : T < B ∨ (T = B ∧ q = 0)) : ∃ z, F9 10 ⟨B, 0, r⟩ ⟨T, q, r⟩ = some z ∧ 0 ≤ z := by
  unfold F9
  rcases h with h | ⟨rfl, rfl⟩
  · have h1 : decide ((B : Int) < (T : Int)) = false := decide_eq_false (by omega)
    have h2 : ((B : Int) == (T : Int)) = false := by simp; omega
    simp only [h1, h2, Bool.false_or, Bool.false_and]
    exact ⟨1, rfl, by decide⟩
  · simp
/-- What is known of a store behind some steps. -/
structure Nums (r i : Nat) (ts : List Nm) (B : Nat) : Prop where
  isn : ∀ t ∈ ts, IsN t
  small : ∀ t ∈ ts, t.1.length ≤ 29
  last : lastB (0, 0, (r : Int)) ts = ((B : Int), 0, (r : Int))
  len : ts.length ≤ i
  top : B ≤ 327670 + 1000 * i
theorem Nums.up {r i : Nat} {ts : List Nm} {B : Nat} (h : Nums r i ts B) : Nums r (i + 1) ts B := ⟨h.isn, h.small, h.last, by have := h.len; omega, by have := h.top; omega⟩
def resN (T r : Nat) : Nm := (txt (T + 1000) 0 r, ((T + 1000 : Nat) : Int), 0, (r : Int))
theorem Nums.next {r i : Nat} {ts : List Nm} {B T : Nat} (h : Nums r i ts B) (hr : r < 4) (hi : i ≤ 40) (hT : T ≤ 327670 + 1000 * i) : Nums r (i + 1) (ts ++ [resN T r]) (T + 1000) := by
  have hN : IsN (resN T r) := isN_txt (T + 1000) 0 r (by omega) (by omega) (by omega)
  refine ⟨?_, ?_, by rw [lastB_snoc]; rfl, ?_, by omega⟩
  · intro t ht
    rcases List.mem_append.1 ht with ht | ht
    · exact h.isn t ht
    · rw [List.mem_singleton] at ht; subst ht; exact hN
  · intro t ht
    rcases List.mem_append.1 ht with ht | ht
    · exact h.small t ht
    · rw [List.mem_singleton] at ht; subst ht; exact txt_len (T + 1000) 0 r (by omega) (by omega) (by omega)
  · have := h.len; simp; omega
end Go.Proofs.YtecimmaoilignaaGreatDoor.M.L
