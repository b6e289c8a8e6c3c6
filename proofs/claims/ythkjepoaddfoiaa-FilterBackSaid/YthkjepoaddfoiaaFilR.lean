/- Filters: the reader comes to an end on every text, with a small filter. -/
import Derived.Test.YthkjepoaddfoiaaFilE
namespace Go.Proofs.Ythkjepoaddfoiaa.M
open Go Go.Pam
set_option maxRecDepth 20000
set_option linter.unusedVariables false
set_option linter.unusedSimpArgs false

abbrev Rd := Filter_reader

def nx (r : Rd) : Int := if (r.fails || decide (r.at_ ≥ Str.len r.s_)) = true then 0 else ((r.s_.getD r.at_.toNat 0).toNat : Int)

structure Okr (s : Str) (r : Rd) : Prop where
 es : r.s_ = s
 lo : 0 ≤ r.at_
 hi : r.at_ ≤ (s.length : Int) + 3
 ok : r.fails = false → r.at_ ≤ (s.length : Int)

theorem f40 (k : Nat) {s : Str} {r : Rd} (h : Okr s r) : F40 k r = some (nx r) := by
 unfold F40 nx
 cases hf : r.fails
 ·simp only [Bool.false_eq_true, if_false, Option.bind_some, Bool.false_or]
  by_cases ha : r.at_ ≥ Str.len r.s_
  ·rw [if_pos (decide_eq_true ha), if_pos (decide_eq_true ha)]
  ·rw [if_neg (by simpa using ha), if_neg (by simpa using ha)]
   have h0 := h.lo
   have hlt : r.at_.toNat < r.s_.length := by simp only [Str.len] at ha; omega
   have : Str.at? r.s_ r.at_ = some ((r.s_.getD r.at_.toNat 0).toNat : Int) := by
    unfold Str.at?
    rw [if_pos h0, List.getElem?_eq_getElem hlt, List.getD_eq_getElem?_getD, List.getElem?_eq_getElem hlt]
    rfl
   rw [bnd this]
 ·rfl

theorem nx_pos {s : Str} {r : Rd} (h : Okr s r) (hn : nx r ≠ 0) : r.fails = false ∧ r.at_ < (s.length : Int) := by
 unfold nx at hn
 split at hn
 ·exact absurd rfl hn
 ·rename_i hc
  simp only [Bool.or_eq_true, decide_eq_true_eq, not_or] at hc
  have := hc.2
  simp only [Str.len, h.es] at this
  exact ⟨by simpa using hc.1, by omega⟩

def byteR (r : Rd) (c : Int) : Rd := if (nx r != c || decide (r.at_ ≥ Str.len r.s_)) = true then ⟨r.s_, r.at_, r.left, true⟩ else ⟨r.s_, r.at_ + 1, r.left, r.fails⟩

theorem f39 (k : Nat) {s : Str} {r : Rd} (h : Okr s r) (hs : s.length ≤ 160000) (c : Int) : F39 k r c = some (byteR r c) := by
 unfold F39 byteR
 rw [bnd (f40 k h)]
 have ha : ad .i64 r.at_ 1 = r.at_ + 1 := ad64 (by have := h.lo; have := h.hi; omega)
 by_cases h1 : (nx r != c) = true
 ·rw [if_pos h1, h1]; simp
 ·rw [if_neg h1]
  simp only [Bool.not_eq_true] at h1
  rw [h1, ha]
  simp only [Option.bind_some, Bool.false_or]
  cases decide (r.at_ ≥ Str.len r.s_) <;> rfl

theorem byte_ok' {s : Str} {r : Rd} (h : Okr s r) (c : Int) : Okr s (byteR r c) ∧ (byteR r c).left = r.left ∧ r.at_ ≤ (byteR r c).at_ ∧ ((byteR r c).fails = false → r.fails = false ∧ (byteR r c).at_ = r.at_ + 1 ∧ nx r = c) := by
 unfold byteR
 split
 ·exact ⟨⟨h.es, h.lo, h.hi, fun h' => by cases h'⟩, rfl, Int.le_refl _, fun h' => by cases h'⟩
 ·rename_i hc
  simp only [Bool.or_eq_true, decide_eq_true_eq, not_or, bne_iff_ne, ne_eq, Decidable.not_not] at hc
  have h2 := hc.2
  simp only [Str.len, h.es] at h2
  exact ⟨⟨h.es, by have := h.lo; simp only; omega, by first | omega | (simp only; omega), fun _ => by first | omega | (simp only; omega)⟩, rfl, by first | omega | (simp only; omega), fun hf => ⟨hf, rfl, hc.1⟩⟩

/-! A value -/
theorem idx_zero : Lib.indexByte [48, 49, 50, 51, 52, 53, 54, 55, 56, 57, 97, 98, 99, 100, 101, 102] (Int.toNat 0).toUInt8 = -1 := by decide

theorem f46L (k : Nat) {s : Str} (hs : s.length ≤ 160000) : ∀ (n : Nat) (x : Sl Int) (r : Rd), Okr s r → (s.length : Int) + 4 - r.at_ ≤ n → 1 ≤ n → ((Sl.l x).length : Int) ≤ r.at_ →
  ∃ x' r', F46_L0 k n x r = some (x', r') ∧ Okr s r' ∧ r'.left = r.left ∧ r.at_ ≤ r'.at_ ∧ ((Sl.l x').length : Int) ≤ r'.at_ ∧ (r'.fails = false → r.fails = false)
 | 0, x, r, h, hm, h1, _ => by omega
 | n + 1, x, r, h, hm, h1, hx => by
  have hlo := h.lo
  have hhi := h.hi
  rw [F46_L0]
  cases hf : r.fails
  ·rw [if_pos (show (!false) = true from rfl), bnd (f40 k h)]
   by_cases hc : ((((decide (r.at_ ≥ (Str.len r.s_))) || (nx r == 42)) || (nx r == 40)) || (nx r == 41)) = true
   ·rw [if_pos hc]
    exact ⟨_, _, rfl, h, rfl, Int.le_refl _, hx, fun _ => rfl⟩
   ·rw [if_neg hc]
    simp only [Bool.or_eq_true, decide_eq_true_eq, not_or] at hc
    have hlt : r.at_ < (s.length : Int) := by have := hc.1.1.1; simp only [Str.len, h.es] at this; omega
    have a1 : ad .i64 r.at_ 1 = r.at_ + 1 := ad64 (by omega)
    have a2 : ad .i64 (r.at_ + 1) 1 = r.at_ + 2 := by rw [ad64 (by omega)]; omega
    have a3 : ad .i64 (r.at_ + 2) 1 = r.at_ + 3 := by rw [ad64 (by omega)]; omega
    have goOn : ∀ (c : Int) (r2 : Rd), Okr s r2 → r2.left = r.left → r.at_ + 1 ≤ r2.at_ → ∃ x' r', (Option.bind (Sl.app? 1 x (Sl.l (some [c]))) fun z207 => F46_L0 k n z207 r2) = some (x', r') ∧ Okr s r' ∧ r'.left = r.left ∧ r.at_ ≤ r'.at_ ∧ ((Sl.l x').length : Int) ≤ r'.at_ ∧ (r'.fails = false → True) := by
     intro c r2 h2 hl ha
     obtain ⟨z, z1, z2⟩ := Sl.app?_l (α := Int) (bytes := 1) (x := x) (ys := [c]) (by simp; omega)
     have hh2 := h2.hi
     obtain ⟨x', r', b1, b2, b3, b4, b5, _⟩ := f46L k hs n z r2 h2 (by omega) (by omega) (by rw [z2]; simp; omega)
     exact ⟨x', r', by rw [Sl.l_some, bnd z1]; exact b1, b2, b3.trans hl, by omega, b5, fun _ => trivial⟩
    rw [a1]
    by_cases h92 : (nx r == 92) = true
    ·rw [if_pos h92, a2, a3]
     have o1 : Okr s ⟨r.s_, r.at_ + 1, r.left, r.fails⟩ := ⟨h.es, by first | omega | (simp only; omega), by first | omega | (simp only; omega), fun _ => by first | omega | (simp only; omega)⟩
     have o2 : Okr s ⟨r.s_, r.at_ + 2, r.left, r.fails⟩ ∨ ¬ (r.at_ + 2 ≤ (s.length : Int)) := by
      by_cases h2 : r.at_ + 2 ≤ (s.length : Int)
      ·exact .inl ⟨h.es, by first | omega | (simp only; omega), by first | omega | (simp only; omega), fun _ => h2⟩
      ·exact .inr h2
     have e1 : F40 k ⟨r.s_, r.at_ + 1, r.left, false⟩ = some (nx ⟨r.s_, r.at_ + 1, r.left, r.fails⟩) := by rw [hf] at o1 ⊢; exact f40 k o1
     have e2 : F40 k ⟨r.s_, r.at_ + 2, r.left, false⟩ = some (nx ⟨r.s_, r.at_ + 2, r.left, r.fails⟩) := by
      rcases o2 with o2 | o2
      ·rw [hf] at o2 ⊢; exact f40 k o2
      ·unfold F40 nx
       have hd : decide (r.at_ + 2 ≥ Str.len r.s_) = true := decide_eq_true (by simp only [Str.len, h.es]; omega)
       simp [hd, hf]
     rw [hf] at e1 e2
     rw [bnd e1, bnd e2]
     generalize hA : nx ⟨r.s_, r.at_ + 1, r.left, false⟩ = A
     generalize hB : nx ⟨r.s_, r.at_ + 2, r.left, false⟩ = B
     generalize hIA : Lib.indexByte [48, 49, 50, 51, 52, 53, 54, 55, 56, 57, 97, 98, 99, 100, 101, 102] (Int.toNat A).toUInt8 = IA
     generalize hIB : Lib.indexByte [48, 49, 50, 51, 52, 53, 54, 55, 56, 57, 97, 98, 99, 100, 101, 102] (Int.toNat B).toUInt8 = IB
     have hsh : ∃ z, shl? .i64 (imax IA 0) 4 = some z := by unfold shl?; rw [if_neg (by omega)]; exact ⟨_, rfl⟩
     obtain ⟨z, hz⟩ := hsh
     rw [bnd hz]
     simp only [Option.bind_some]
     refine goOn _ ⟨r.s_, r.at_ + 3, r.left, ((false || (decide (IA < 0))) || (decide (IB < 0)))⟩ ⟨h.es, (show 0 ≤ r.at_ + 3 by omega), (show r.at_ + 3 ≤ (s.length : Int) + 3 by omega), fun hff => ?_⟩ rfl (show r.at_ + 1 ≤ r.at_ + 3 by omega)
     simp only at hff ⊢
     simp only [Bool.or_eq_false_iff, decide_eq_false_iff_not] at hff
     -- the second digit was one
     by_cases h3 : r.at_ + 2 < (s.length : Int)
     ·omega
     ·exfalso
      have hB0 : B = 0 := by
       rw [← hB]; unfold nx
       have hd : decide (r.at_ + 2 ≥ Str.len r.s_) = true := decide_eq_true (by simp only [Str.len, h.es]; omega)
       simp [hd]
      rw [hB0, idx_zero] at hIB
      omega
    ·rw [if_neg h92]
     simp only [Option.bind_some]
     exact goOn _ ⟨r.s_, r.at_ + 1, r.left, false⟩ ⟨h.es, (show 0 ≤ r.at_ + 1 by omega), (show r.at_ + 1 ≤ (s.length : Int) + 3 by omega), fun _ => (show r.at_ + 1 ≤ (s.length : Int) by omega)⟩ rfl (show r.at_ + 1 ≤ r.at_ + 1 by omega)
  ·rw [if_neg (show ¬ (!true) = true by simp)]
   exact ⟨_, _, rfl, h, rfl, Int.le_refl _, hx, fun h' => by rw [hf] at h'; cases h'⟩

theorem f46 {k : Nat} {s : Str} (hs : s.length ≤ 160000) (hk : 160100 ≤ k) {r : Rd} (h : Okr s r) : ∃ r' v, F46 k r = some (r', v) ∧ Okr s r' ∧ r'.left = r.left ∧ r.at_ ≤ r'.at_ ∧ v.length ≤ 160003 ∧ (r'.fails = false → r.fails = false) := by
 have hlo := h.lo
 obtain ⟨x', r', b1, b2, b3, b4, b5, b6⟩ := f46L k hs k none r h (by omega) (by omega) (by rw [Sl.l_none]; simp; omega)
 unfold F46
 rw [bnd b1]
 refine ⟨r', _, rfl, b2, b3, b4, ?_, b6⟩
 have := b2.hi
 simp only [Str.of, List.length_map]
 omega
end Go.Proofs.Ythkjepoaddfoiaa.M
