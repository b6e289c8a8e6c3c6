/- Filters: reading a text, whatever it is; what is read is printed so. -/
import Derived.Test.YthkjepoaddfoiaaFilS
namespace Go.Proofs.Ythkjepoaddfoiaa.M
open Go Go.Pam
set_option maxRecDepth 20000
set_option linter.unusedVariables false
set_option linter.unusedSimpArgs false

theorem few_more : ∀ (n : Nat) (f : Fil), fewP n f → fewP (n + 1) f
 | 0, f, h => h.elim
 | n + 1, f, h => ⟨h.1, h.2.1, h.2.2.1, h.2.2.2.1, h.2.2.2.2.1, fun g hg => few_more n g (h.2.2.2.2.2 g hg)⟩
theorem few_le {n m : Nat} (hnm : n ≤ m) {f : Fil} (h : fewP n f) : fewP m f := by
 induction hnm with
 | refl => exact h
 | step _ ih => exact few_more _ f ih

def Reads (s : Str) (l : Nat) (rc : Rd → Option (Rd × Fil)) : Prop :=
 ∀ r : Rd, Okr s r → r.at_ ≤ (s.length : Int) → 0 ≤ r.left → r.left ≤ l → ∃ r' f, rc r = some (r', f) ∧ Okr s r' ∧ r'.left ≤ r.left - 1 ∧ -1 ≤ r'.left ∧ r.at_ ≤ r'.at_ ∧ (r'.fails = false → r.fails = false ∧ 0 ≤ r'.left ∧ r.at_ + 1 ≤ r'.at_) ∧ fewP (l + 2) f

theorem f28L {s : Str} (hs : s.length ≤ 160000) (k : Nat) (a : Fil) (l : Nat) (hl : l ≤ 100) (rc : Rd → Option (Rd × Fil)) (hrc : Reads s l rc) :
  ∀ (n : Nat) (b : Fil) (r : Rd), Okr s r → (r.fails = false → 0 ≤ r.left) → r.left ≤ l → -1 ≤ r.left → r.left + 2 ≤ n → 1 ≤ n → ((Sl.l b.Kids).length : Int) ≤ 200 - r.left → (∀ g ∈ Sl.l b.Kids, fewP (l + 2) g) →
  ∃ b' r', F28_L1 rc k a n b r = some (b', r') ∧ Okr s r' ∧ r'.left ≤ r.left ∧ -1 ≤ r'.left ∧ r.at_ ≤ r'.at_ ∧ (r'.fails = false → r.fails = false ∧ 0 ≤ r'.left) ∧ b'.Kind = b.Kind ∧ b'.Attr = b.Attr ∧ b'.Value = b.Value ∧ b'.Subs = b.Subs ∧ (Sl.l b'.Kids).length ≤ 300 ∧ ∀ g ∈ Sl.l b'.Kids, fewP (l + 2) g
 | 0, b, r, h, _, _, _, hm, h1, _, _ => by omega
 | n + 1, b, r, h, hz, hle, hge, hm, h1, hk, hg => by
  rw [F28_L1, bnd (f40 k h)]
  by_cases hc : (nx r == 40) = true
  ·rw [if_pos hc]
   obtain ⟨p1, p2⟩ := nx_pos h (by rw [beq_iff_eq] at hc; omega)
   have hz0 := hz p1
   obtain ⟨r2, f, c1, c2, c3, c4, c5, c6, c7⟩ := hrc r h (by omega) hz0 hle
   obtain ⟨z, z1, z2⟩ := Sl.app?_l (α := Fil) (bytes := 88) (x := b.Kids) (ys := [f]) (by simp; omega)
   obtain ⟨b', r', d1, d2, d3, d4, d5, d6, d7, d8, d9, d10, d11, d12⟩ := f28L hs k a l hl rc hrc n ⟨b.Kind, b.Attr, b.Value, b.Subs, z⟩ r2 c2 (fun hff => (c6 hff).2.1) (by omega) c4 (by omega) (by omega) (by show ((Sl.l z).length : Int) ≤ _; rw [z2]; simp; omega) (fun g hg' => by
    have hg2 : g ∈ Sl.l z := hg'
    rw [z2] at hg2
    rcases List.mem_append.1 hg2 with hg2 | hg2
    ·exact hg g hg2
    ·rw [List.mem_singleton] at hg2; subst hg2; exact c7)
   rw [bnd c1, Sl.l_some, bnd z1]
   exact ⟨b', r', d1, d2, by omega, d4, by omega, fun hff => ⟨p1, (d6 hff).2⟩, d7, d8, d9, d10, d11, d12⟩
  ·rw [if_neg hc]
   exact ⟨b, r, rfl, h, Int.le_refl _, hge, Int.le_refl _, fun hff => ⟨hff, hz hff⟩, rfl, rfl, rfl, rfl, by omega, hg⟩

theorem f25 (k : Nat) (n : Int) : F25 k n = some (kidsK n) := rfl

theorem f28 {s : Str} (hs : s.length ≤ 160000) : ∀ (l k : Nat), l ≤ 90 → 160200 + l ≤ k → Reads s l (F28 k)
 | l, 0, hl, hk => by omega
 | l, k + 1, hl, hk => by
  intro r h hat h0 hle
  rw [F28]
  have e1 : sb .i64 r.left 1 = r.left - 1 := sb64 (by omega)
  rw [e1]
  -- one node less
  have hfirst : ∃ r1 : Rd, (if decide (r.left - 1 < 0) = true then some (Filter_reader.mk r.s_ r.at_ (r.left - 1) true) else some (Filter_reader.mk r.s_ r.at_ (r.left - 1) r.fails)) = some r1 ∧ Okr s r1 ∧ r1.left = r.left - 1 ∧ r1.at_ = r.at_ ∧ (r1.fails = false → r.fails = false ∧ 0 ≤ r.left - 1) := by
   by_cases hn : r.left - 1 < 0
   ·rw [if_pos (decide_eq_true hn)]
    exact ⟨_, rfl, ⟨h.es, h.lo, h.hi, fun hh => by cases hh⟩, rfl, rfl, fun hh => by cases hh⟩
   ·rw [if_neg (by simpa using hn)]
    exact ⟨_, rfl, ⟨h.es, h.lo, h.hi, h.ok⟩, rfl, rfl, fun hh => ⟨hh, by omega⟩⟩
  obtain ⟨r1, q1, q2, q3, q4, q5⟩ := hfirst
  rw [bnd q1, bnd (f39 k q2 hs 40)]
  obtain ⟨o2, l2, t2, u2⟩ := byte_ok' q2 40
  generalize hr2 : byteR r1 40 = r2 at o2 l2 t2 u2 ⊢
  rw [bnd (f40 k o2)]
  have hat2 : r2.at_ ≤ (s.length : Int) := by
   cases hf2 : r2.fails
   ·exact o2.ok hf2
   ·have : r2.at_ = r1.at_ ∨ r2.at_ = r1.at_ + 1 ∧ r1.fails = true ∧ False := by
     rw [← hr2] at hf2 ⊢
     unfold byteR at hf2 ⊢
     split
     ·exact .inl rfl
     ·rename_i hc
      rw [if_neg hc] at hf2
      simp only [Bool.or_eq_true, decide_eq_true_eq, not_or, bne_iff_ne, ne_eq, Decidable.not_not] at hc
      have hnz : nx r1 ≠ 0 := by omega
      have := (nx_pos q2 hnz).1
      simp only at hf2
      rw [this] at hf2; cases hf2
    rcases this with hh | hh
    ·omega
    ·exact hh.2.2.elim
  -- which kind
  have hkind : ∃ (f : Fil) (r3 : Rd), (Option.bind (if nx r2 == 38 then some ((Api_Filter.mk 1 [] [] none none), r2) else
    Option.bind (if nx r2 == 124 then some ((Api_Filter.mk 2 [] [] none none), r2) else
    Option.bind (if nx r2 == 33 then some ((Api_Filter.mk 3 [] [] none none), r2) else
    Option.bind (F41 k r2 ) fun y215 => some (y215.2, y215.1)) fun y212 => some (y212.1, y212.2)) fun y205 => some (y205.1, y205.2)) (fun y => some y)) = some (f, r3) ∧ Okr s r3 ∧ r3.left = r2.left ∧ r2.at_ ≤ r3.at_ ∧ (r3.fails = false → r2.fails = false) ∧
    ((kidsK f.Kind = true ∧ f.Attr = [] ∧ f.Value = [] ∧ f.Subs = none ∧ f.Kids = none ∧ r3 = r2 ∧ nx r2 ≠ 0) ∨ (kidsK f.Kind = false ∧ Leaf f)) := by
   by_cases h1 : (nx r2 == 38) = true
   ·rw [if_pos h1]
    exact ⟨_, r2, rfl, o2, rfl, Int.le_refl _, id, .inl ⟨rfl, rfl, rfl, rfl, rfl, rfl, by rw [beq_iff_eq] at h1; omega⟩⟩
   ·rw [if_neg h1]
    by_cases h2 : (nx r2 == 124) = true
    ·rw [if_pos h2]
     exact ⟨_, r2, rfl, o2, rfl, Int.le_refl _, id, .inl ⟨rfl, rfl, rfl, rfl, rfl, rfl, by rw [beq_iff_eq] at h2; omega⟩⟩
    ·rw [if_neg h2]
     by_cases h3 : (nx r2 == 33) = true
     ·rw [if_pos h3]
      exact ⟨_, r2, rfl, o2, rfl, Int.le_refl _, id, .inl ⟨rfl, rfl, rfl, rfl, rfl, rfl, by rw [beq_iff_eq] at h3; omega⟩⟩
     ·rw [if_neg h3]
      obtain ⟨r3, f, c1, c2, c3, c4, c5, c6⟩ := f41 (k := k) hs (by omega) o2 hat2
      rw [bnd c1]
      refine ⟨f, r3, rfl, c2, c3, c4, c5, .inr ⟨?_, c6⟩⟩
      have := c6.k4
      simp only [kidsK, Bool.and_eq_false_iff, decide_eq_false_iff_not]
      omega
  obtain ⟨f, r3, w1, w2, w3, w4, w5, w6⟩ := hkind
  have w1' : (if nx r2 == 38 then some ((Api_Filter.mk 1 [] [] none none), r2) else
    Option.bind (if nx r2 == 124 then some ((Api_Filter.mk 2 [] [] none none), r2) else
    Option.bind (if nx r2 == 33 then some ((Api_Filter.mk 3 [] [] none none), r2) else
    Option.bind (F41 k r2 ) fun y215 => some (y215.2, y215.1)) fun y212 => some (y212.1, y212.2)) fun y205 => some (y205.1, y205.2)) = some (f, r3) := by
   generalize hx : (if (nx r2 == 38) = true then some ((Api_Filter.mk 1 [] [] none none), r2) else _) = x at w1 ⊢
   cases x with
   | none => cases w1
   | some y => exact w1
  rw [bnd w1']
  simp only
  rw [bnd (f25 k f.Kind)]
  have hlo3 := w2.lo
  have hhi3 := w2.hi
  -- the closing bracket
  have close : ∀ (g : Fil) (r4 : Rd), Okr s r4 → r4.left ≤ r.left - 1 → -1 ≤ r4.left → r2.at_ ≤ r4.at_ → (r4.fails = false → r2.fails = false ∧ 0 ≤ r4.left) → fewP (l + 2) g → ∃ r' f, (Option.bind (F39 k r4 41) fun y432 => some (y432, g)) = some (r', f) ∧ Okr s r' ∧ r'.left ≤ r.left - 1 ∧ -1 ≤ r'.left ∧ r.at_ ≤ r'.at_ ∧ (r'.fails = false → r.fails = false ∧ 0 ≤ r'.left ∧ r.at_ + 1 ≤ r'.at_) ∧ fewP (l + 2) f := by
   intro g r4 o4 x1 x2 x3 x4 x5
   obtain ⟨o5, l5, t5, u5⟩ := byte_ok' o4 41
   rw [bnd (f39 k o4 hs 41)]
   refine ⟨_, g, rfl, o5, by omega, by omega, by omega, fun hff => ?_, x5⟩
   have := u5 hff
   have h4 := x4 this.1
   have h2 := u2 h4.1
   have h1 := q5 h2.1
   exact ⟨h1.1, by omega, by omega⟩
  rcases w6 with ⟨v1, v2, v3, v4, v5, v6, v7⟩ | ⟨v1, v2⟩
  ·rw [v1]
   simp only [if_true]
   subst v6
   obtain ⟨p1, p2⟩ := nx_pos o2 v7
   have hlft : 0 ≤ r3.left := by
    have := q5 (u2 p1).1; omega
   have hlpos : 1 ≤ l := by omega
   obtain ⟨l', rfl⟩ : ∃ l', l = l' + 1 := ⟨l - 1, by omega⟩
   rw [ad64 (show -9223372036854775808 ≤ r3.at_ + 1 ∧ r3.at_ + 1 < 9223372036854775808 by omega)]
   have o3 : Okr s ⟨r3.s_, r3.at_ + 1, r3.left, r3.fails⟩ := ⟨w2.es, (show 0 ≤ r3.at_ + 1 by omega), (show r3.at_ + 1 ≤ (s.length : Int) + 3 by omega), fun _ => (show r3.at_ + 1 ≤ (s.length : Int) by omega)⟩
   obtain ⟨b', r', d1, d2, d3, d4, d5, d6, d7, d8, d9, d10, d11, d12⟩ := f28L hs k (Api_Filter.mk 0 [] [] none none) l' (by omega) (F28 k) (f28 hs l' k (by omega) (by omega)) k f ⟨r3.s_, r3.at_ + 1, r3.left, r3.fails⟩ o3 (fun _ => hlft) (show r3.left ≤ (l' : Int) by omega) (show -1 ≤ r3.left by omega) (show r3.left + 2 ≤ (k : Int) by omega) (by omega) (show ((Sl.l f.Kids).length : Int) ≤ 200 - r3.left by rw [v5]; simp [Sl.l]; omega) (fun g hg => by rw [v5] at hg; cases hg)
   have hn : nilThen f.Kids (Option.bind (F28_L1 (F28 k) k (Api_Filter.mk 0 [] [] none none) k f (Filter_reader.mk r3.s_ (r3.at_ + 1) r3.left r3.fails)) fun y427 => some (y427.1, y427.2)) = some (b', r') := by
    unfold nilThen
    rw [v5, if_pos (show (none : Option (List Api_Filter)).isNone = true from rfl), bnd d1]
   rw [bnd hn]
   have hd5 : r3.at_ + 1 ≤ r'.at_ := d5
   have hd3 : r'.left ≤ r3.left := d3
   refine close b' r' d2 (by omega) d4 (by omega) (fun hff => ⟨p1, (d6 hff).2⟩) ⟨by omega, by rw [d8, v2]; simp, by rw [d9, v3]; simp, by rw [d10, v4]; simp [Sl.l], (fun v hv => by rw [d10, v4] at hv; cases hv), fun g hg => d12 g hg⟩
  ·rw [v1]
   simp only [Bool.false_eq_true, if_false, Option.bind_some]
   exact close f r3 w2 (by omega) (by omega) w4 (fun hff => ⟨w5 hff, by have := q5 (u2 (w5 hff)).1; omega⟩) (v2.few (l + 1))

theorem f18 {s : Str} (hs : s.length ≤ 160000) {k : Nat} (hk : 200300 ≤ k) (hk2 : k < 1000000) : (F18 k s = some (Api_Filter.mk 0 [] [] none none, 18)) ∨ ∃ f, F18 k s = some (f, 0) ∧ fewP 22 f ∧ isS 22 f = true ∧ cS 22 f ≤ 20 ∧ prS 22 f = s ∧ s ≠ [] := by
 obtain ⟨r', f, c1, c2, c3, c4, c5, c6, c7⟩ := f28 hs 20 k (by omega) (by omega) ⟨s, 0, 20, false⟩ ⟨rfl, Int.le_refl _, (show (0 : Int) ≤ (s.length : Int) + 3 by omega), fun _ => (show (0 : Int) ≤ (s.length : Int) by omega)⟩ (show (0 : Int) ≤ (s.length : Int) by omega) (by simp) (by simp)
 have e14 := f14 22 k f c7 (by omega)
 have e23 := f23 22 k f c7 (by omega) hk2
 have hIs : F12 k f = some (decide (cS 22 f ≤ 20) && isS 22 f) := by
  unfold F12
  rw [bnd e14]
  cases decide (cS 22 f ≤ 20)
  ·rfl
  ·rw [if_pos rfl, bnd e23]; rfl
 unfold F18
 rw [bnd c1]
 simp only
 by_cases hfl : (r'.fails || (s == [])) = true
 ·left
  rw [if_pos hfl]
  rfl
 ·rw [if_neg hfl]
  have hne : s ≠ [] := by
   intro h; subst h; simp at hfl
  by_cases hI : (decide (cS 22 f ≤ 20) && isS 22 f) = true
  ·have h2 := hI
   rw [Bool.and_eq_true, decide_eq_true_eq] at h2
   have e24 := f24 22 k f c7 h2.2 h2.1 (by omega) hk2
   have hP : F13 k f = some (prS 22 f) := by
    unfold F13
    rw [bnd hIs, hI, if_neg (by simp), bnd e24]
   rw [bnd hP]
   simp only [Option.bind_some]
   by_cases he : prS 22 f = s
   ·right
    rw [he]
    exact ⟨f, by simp, c7, h2.2, h2.1, he, hne⟩
   ·left
    rw [if_pos (by simpa using he)]
  ·have hI' : (decide (cS 22 f ≤ 20) && isS 22 f) = false := by simpa using hI
   have hP : F13 k f = some [] := by
    unfold F13
    rw [bnd hIs, hI', if_pos (by simp)]
   left
   rw [bnd hP]
   simp only [Option.bind_some]
   rw [if_pos (by simp; exact fun h => hne h)]
end Go.Proofs.Ythkjepoaddfoiaa.M
