/- Messages: both tell the same. -/
import Derived.Test.YtbinlabnilidiaaDoorMsR
import Derived.Test.YtbinlabnilidiaaDoorMsE8
namespace Go.Proofs.YtbinlabnilidiaaDoor.M
open Go Go.Pam
set_option maxRecDepth 20000
set_option linter.unusedVariables false
set_option linter.unusedSimpArgs false

theorem core_rows {a : Ms} (h : msgEq a (coreS a) = true) : (a.Op ≠ 3 → Sl.l a.Wants = []) ∧ (¬ (a.Op = 4 ∨ a.Op = 5 ∨ a.Op = 10) → Sl.l a.Mods = []) := by
 unfold msgEq at h
 simp only [Bool.and_eq_true, beq_iff_eq] at h
 obtain ⟨⟨⟨⟨_, hw⟩, hm⟩, _⟩, _⟩ := h
 have hW : a.Op ≠ 3 → (coreS a).Wants = none := fun h => by
  unfold coreS
  repeat' split
  all_goals first | rfl | (exfalso; omega)
 have hM : ¬ (a.Op = 4 ∨ a.Op = 5 ∨ a.Op = 10) → (coreS a).Mods = none := fun h => by
  unfold coreS
  repeat' split
  all_goals first | rfl | (exfalso; omega)
 refine ⟨fun h => by rw [hw, hW h]; rfl, fun h => ?_⟩
 rw [hM h] at hm
 have := all2_len hm
 exact List.eq_nil_of_length_eq_zero this

theorem r12 {k : Nat} (hk : 200200 ≤ k) (hk2 : k < 400000000000000) {a : Ms} (ha : Few a) : R12 k a = some (isM a) := by
 have hS : F8 k a (coreS a) = some (msgEq a (coreS a)) := f8 hk hk2 ha (core_filter ha.filter)
 have hT : R35 k (some (ownS a)) = some (textsS (ownS a)) := by
  rw [r35 (some (ownS a)) (show 7 < k by omega) (show 7 ≤ 200000 by omega)]
  show some (textsS (ownS a) && true) = _
  rw [Bool.and_true]
 have hW := r35 (k := k) a.Wants (by have := ha.wants; omega) (by have := ha.wants; omega)
 have hM := r36 (k := k) (by omega) a.Mods (a.Op == 4) ha.mods ha.mod
 have e0 : (some [a.DN, a.Pass, a.RDN, a.Sup, a.Attr, a.Value, a.Matched] : Sl Str) = some (ownS a) := rfl
 unfold R12 isM
 rw [r34c a, e0, hT, hW, hM]
 by_cases hop : 1 ≤ a.Op ∧ a.Op ≤ 10
 ·have b1 : decide (a.Op < 1) = false := decide_eq_false (by omega)
  have b2 : decide (a.Op > 10) = false := decide_eq_false (by omega)
  have hid : ((((decide (a.Op < 1)) || (decide (a.Op > 10))) || (decide (a.ID < 0))) || (decide (a.ID > 2147483647))) = !(decide (0 ≤ a.ID) && decide (a.ID ≤ 2147483647)) := by
   rw [b1, b2, Bool.eq_iff_iff]
   simp only [Bool.or_eq_true, decide_eq_true_eq, Bool.not_eq_true', Bool.and_eq_false_iff, decide_eq_false_iff_not, Bool.false_eq_true, false_or]
   omega
  rw [hid]
  cases (decide (0 ≤ a.ID) && decide (a.ID ≤ 2147483647))
  ·rfl
  ·rw [Bool.not_true, if_neg (by simp), bnd rfl]
   rw [bnd hS]
   cases hq : msgEq a (coreS a)
   ·rfl
   obtain ⟨r1, r2⟩ := core_rows hq
   cases textsS (ownS a)
   ·rfl
   simp only [Bool.not_true, Bool.false_eq_true, if_false, Option.bind_some, Bool.true_and]
   unfold opS
   have cases10 : a.Op = 1 ∨ a.Op = 2 ∨ a.Op = 3 ∨ a.Op = 4 ∨ a.Op = 5 ∨ a.Op = 6 ∨ a.Op = 7 ∨ a.Op = 8 ∨ a.Op = 9 ∨ a.Op = 10 := by omega
   have m0 : ∀ t, modsIs [] t = true := fun t => rfl
   have w0 : (textsS [] && decide (([] : List Str).length ≤ 12)) = true := rfl
   rcases cases10 with e | e | e | e | e | e | e | e | e | e
   ·rw [r1 (by omega), r2 (by omega)]; simp only [m0, w0, e]; rfl
   ·rw [r1 (by omega), r2 (by omega)]; simp only [m0, w0, e]; rfl
   ·rw [r2 (by omega), r37 hk hk2 ha.filter]
    simp only [m0, e]
    simp only [ge_iff_le]
    cases hc : (((decide (0 ≤ a.Scope)) && (decide (a.Scope ≤ 2))) && (decide (0 ≤ a.Size))) && (decide (a.Size ≤ 2147483647))
    ·cases textsS (Sl.l a.Wants) <;> cases decide ((Sl.l a.Wants).length ≤ 12) <;> simp
    ·cases filS a.Filter <;> cases textsS (Sl.l a.Wants) <;> cases decide ((Sl.l a.Wants).length ≤ 12) <;> simp
   ·rw [r1 (by omega)]
    simp only [w0, e]
    cases hc : modsIs (Sl.l a.Mods) 3 <;> simp [hc]
   ·rw [r1 (by omega)]
    simp only [w0, e]
    cases hc : modsIs (Sl.l a.Mods) 1 <;> simp [hc]
   ·rw [r1 (by omega), r2 (by omega)]; simp only [m0, w0, e]; rfl
   ·rw [r1 (by omega), r2 (by omega)]; simp only [m0, w0, e]; rfl
   ·rw [r1 (by omega), r2 (by omega)]; simp only [m0, w0, e]; rfl
   ·rw [r1 (by omega), r2 (by omega)]
    have e2 : (a.Of != 2) = decide (a.Of ≠ 2) := by rw [Bool.eq_iff_iff, bne_iff_ne, decide_eq_true_eq]
    simp only [m0, w0, e, e2]
    rfl
   ·rw [r1 (by omega)]
    simp only [w0, e]
    cases hc : modsIs (Sl.l a.Mods) 1 <;> simp [hc]
 ·have hid : ((((decide (a.Op < 1)) || (decide (a.Op > 10))) || (decide (a.ID < 0))) || (decide (a.ID > 2147483647))) = true := by
   simp only [Bool.or_eq_true, decide_eq_true_eq]
   omega
  have ho : opS a = false := by
   cases h : opS a
   ·rfl
   ·exact absurd (opS_of h).2.2.2 hop
  rw [hid, ho, Bool.and_false]
  rfl

def encS (a : Ms) (d : Nat) : Str × Int :=
 if isM a = false then ([], 14) else match bytesS 28 (msgE a) with
  | none => ([], 13)
  | some b => if 4000 < b.length then ([], 13) else if 20 < d then ([], 12) else (b, 0)

theorem enc_both {k : Nat} (hk : 200200 ≤ k) (hk2 : k < 400000000000000) {a : Ms} (ha : Few a) : ∃ d, F6 k a = some (encS a d) ∧ R10 k a = some (encS a d) ∧ (isM a = true → ∀ n, Dpt n (msgE a) ↔ d ≤ n) := by
 have h11 := f9 hk hk2 ha
 have h12 := r12 hk hk2 ha
 cases hi : isM a with
 | false =>
  rw [hi] at h11 h12
  refine ⟨0, ?_, ?_, fun h => by cases h⟩
  ·unfold F6 encS; rw [bnd h11, hi]; rfl
  ·unfold R10 encS; rw [bnd h12, hi]; rfl
 | true =>
  rw [hi] at h11 h12
  have hO := op_of hi
  have hF := fine_msg ha hO
  obtain ⟨t, ht, hop⟩ := op_a hk ha hO
  have hop2 := op_b hk ha hO
  have hsz := sz_ok 28 k (by omega) (msgE a) hF.few (by have := hF.sz; omega)
  have hbs := bytes_sz 28 (msgE a) hF.few
  obtain ⟨fm, w1, w2⟩ := formed_ok 28 k (by omega) (msgE a) hF.few
  have hfm : fm = true := w2.2 hF.fm
  subst hfm
  obtain ⟨d, d1, d2, _, _, d5⟩ := deep_ok 28 k (by omega) (by omega) (msgE a) hF.few
  obtain ⟨b1, b2⟩ := bytes_ok 28 k (by omega) (msgE a) hF.few
  have hid := hO.id
  have hr : encS a d = match bytesS 28 (msgE a) with
    | none => ([], 13)
    | some b => if 4000 < b.length then ([], 13) else if 20 < d then ([], 12) else (b, 0) := by
   unfold encS
   rw [hi, if_neg (by simp)]
  refine ⟨d, ?_, ?_, fun _ => d5⟩ <;> rw [hr]
  ·unfold F6
   rw [bnd h11, if_neg (by simp), bnd ht, bnd (show F12 k t none = some (ls t none) from rfl), bnd hop, bnd (num_a (by omega) 2 hid), bnd (show F12 k 48 (some [nm 2 a.ID, opE a]) = some (msgE a) from rfl), bnd hsz]
   cases hb : bytesS 28 (msgE a) with
   | none =>
    rw [hb] at hbs
    simp only at hbs
    rw [if_pos (decide_eq_true (by omega))]
   | some b =>
    rw [hb] at hbs b1
    simp only at hbs
    simp only
    by_cases hl : 4000 < b.length
    ·rw [if_pos (decide_eq_true (by omega)), if_pos hl]
    ·rw [if_neg (by simp; omega), if_neg hl]
     have hw : F17 k (msgE a) = some (if 20 < d then ([], 12) else (b, 0)) := by
      unfold F17
      rw [bnd w1, if_neg (by simp), bnd d1]
      by_cases hd : 20 < d
      ·rw [if_pos (decide_eq_true (by omega)), if_pos hd]
      ·rw [if_neg (by simp; omega), if_neg hd, bnd b1]
       rfl
     rw [bnd hw]
  ·unfold R10
   rw [bnd h12, if_neg (by simp), bnd (num_c (by omega) 2 hid), bnd hop2, bnd (show F12 k 48 (some [nm 2 a.ID, opE a]) = some (msgE a) from rfl), bnd b2]
   cases hb : bytesS 28 (msgE a) with
   | none => rfl
   | some b =>
    have hc : ((!(enc2 (some b)).2) || (decide ((Str.len (enc2 (some b)).1) > 4000))) = decide (4000 < b.length) := by
     show (false || decide (Str.len b > 4000)) = _
     rw [Bool.false_or, decide_eq_decide]; simp only [Str.len]; omega
    rw [hc]
    simp only
    by_cases hl : 4000 < b.length
    ·rw [if_pos (decide_eq_true hl), if_pos hl]
    ·rw [if_neg (by simpa using hl), if_neg hl, bnd d2]
     by_cases hd : 20 < d
     ·rw [if_pos (decide_eq_true (by omega)), if_pos hd]
     ·rw [if_neg (by simp; omega), if_neg hd]; rfl

end Go.Proofs.YtbinlabnilidiaaDoor.M
