/- Filters: what is read of a text is small; reading comes to an end. -/
import Derived.Test.YthkjepoaddfoiaaFilR
namespace Go.Proofs.Ythkjepoaddfoiaa.M
open Go Go.Pam
set_option maxRecDepth 20000
set_option linter.unusedVariables false
set_option linter.unusedSimpArgs false

theorem f41L0 (k : Nat) (a : Int) (b : Fil) {s : Str} (hs : s.length ≤ 160000) : ∀ (n : Nat) (r : Rd), Okr s r → (s.length : Int) + 4 - r.at_ ≤ n → 1 ≤ n →
  ∃ r', F41_L0 k a b n (nx r) r = some (nx r', r') ∧ Okr s r' ∧ r'.left = r.left ∧ r'.fails = r.fails ∧ r.at_ ≤ r'.at_ ∧ (r.at_ ≤ (s.length : Int) → r'.at_ ≤ (s.length : Int))
 | 0, r, h, hm, h1 => by omega
 | n + 1, r, h, hm, h1 => by
  have hlo := h.lo
  have hhi := h.hi
  rw [F41_L0]
  by_cases hc : ((((decide (nx r ≥ 97)) && (decide (nx r ≤ 122))) || ((decide (nx r ≥ 48)) && (decide (nx r ≤ 57)))) || (nx r == 45)) = true
  ·rw [if_pos hc]
   have hnz : nx r ≠ 0 := by
    intro h0; rw [h0] at hc; revert hc; decide
   obtain ⟨p1, p2⟩ := nx_pos h hnz
   have o1 : Okr s ⟨r.s_, r.at_ + 1, r.left, r.fails⟩ := ⟨h.es, (show 0 ≤ r.at_ + 1 by omega), (show r.at_ + 1 ≤ (s.length : Int) + 3 by omega), fun _ => (show r.at_ + 1 ≤ (s.length : Int) by omega)⟩
   rw [ad64 (show -9223372036854775808 ≤ r.at_ + 1 ∧ r.at_ + 1 < 9223372036854775808 by omega), bnd (f40 k o1)]
   obtain ⟨r', b1, b2, b3, b4, b5, b6⟩ := f41L0 k a b hs n ⟨r.s_, r.at_ + 1, r.left, r.fails⟩ o1 (show (s.length : Int) + 4 - (r.at_ + 1) ≤ n by omega) (by omega)
   exact ⟨r', b1, b2, b3, b4, by have : r.at_ + 1 ≤ r'.at_ := b5; omega, fun _ => b6 (show r.at_ + 1 ≤ (s.length : Int) by omega)⟩
  ·rw [if_neg hc]
   exact ⟨r, rfl, h, rfl, rfl, Int.le_refl _, id⟩

theorem f41L3 (k : Nat) (hk : 160100 ≤ k) (a : Fil) {s : Str} (hs : s.length ≤ 160000) : ∀ (n : Nat) (f : Fil) (r : Rd), Okr s r → (s.length : Int) + 4 - r.at_ ≤ n → 1 ≤ n → ((Sl.l f.Subs).length : Int) ≤ r.at_ + 1 → (∀ v ∈ Sl.l f.Subs, v.length ≤ 160003) →
  ∃ f' r', F41_L3 k a n f r = some (f', r') ∧ Okr s r' ∧ r'.left = r.left ∧ r.at_ ≤ r'.at_ ∧ (r'.fails = false → r.fails = false) ∧ f'.Kind = f.Kind ∧ f'.Attr = f.Attr ∧ f'.Value = f.Value ∧ f'.Kids = f.Kids ∧ ((Sl.l f'.Subs).length : Int) ≤ r'.at_ + 1 ∧ (∀ v ∈ Sl.l f'.Subs, v.length ≤ 160003)
 | 0, f, r, h, hm, h1, _, _ => by omega
 | n + 1, f, r, h, hm, h1, hl, hv => by
  have hlo := h.lo
  have hhi := h.hi
  rw [F41_L3, bnd (f40 k h)]
  by_cases hc : (nx r == 42) = true
  ·rw [if_pos hc]
   have hnz : nx r ≠ 0 := by rw [beq_iff_eq] at hc; omega
   obtain ⟨p1, p2⟩ := nx_pos h hnz
   have o1 : Okr s ⟨r.s_, r.at_ + 1, r.left, r.fails⟩ := ⟨h.es, (show 0 ≤ r.at_ + 1 by omega), (show r.at_ + 1 ≤ (s.length : Int) + 3 by omega), fun _ => (show r.at_ + 1 ≤ (s.length : Int) by omega)⟩
   rw [ad64 (show -9223372036854775808 ≤ r.at_ + 1 ∧ r.at_ + 1 < 9223372036854775808 by omega)]
   obtain ⟨r2, v, c1, c2, c3, c4, c5, c6⟩ := f46 hs hk o1
   have c4' : r.at_ + 1 ≤ r2.at_ := c4
   obtain ⟨z, z1, z2⟩ := Sl.app?_l (α := Str) (bytes := 16) (x := f.Subs) (ys := [v]) (by simp; omega)
   obtain ⟨f', r', b1, b2, b3, b4, b5, b6, b7, b8, b9, b10, b11⟩ := f41L3 k hk a hs n ⟨f.Kind, f.Attr, f.Value, z, f.Kids⟩ r2 c2 (by omega) (by omega) (by show ((Sl.l z).length : Int) ≤ _; rw [z2]; simp; omega) (fun u hu => by
    have hu' : u ∈ Sl.l z := hu
    rw [z2] at hu'
    rcases List.mem_append.1 hu' with hu' | hu'
    ·exact hv u hu'
    ·rw [List.mem_singleton] at hu'; subst hu'; exact c5)
   rw [bnd c1, Sl.l_some, bnd z1]
   exact ⟨f', r', b1, b2, b3.trans c3, by omega, fun hff => c6 (b5 hff), b6, b7, b8, b9, b10, b11⟩
  ·rw [if_neg hc]
   exact ⟨f, r, rfl, h, rfl, Int.le_refl _, id, rfl, rfl, rfl, rfl, hl, hv⟩

structure Leaf (f : Fil) : Prop where
 k4 : 4 ≤ f.Kind
 k8 : f.Kind ≤ 8
 kd : f.Kids = none
 at_ : f.Attr.length ≤ 160003
 va : f.Value.length ≤ 160003
 su : (Sl.l f.Subs).length ≤ 160004
 sv : ∀ v ∈ Sl.l f.Subs, v.length ≤ 160003

theorem Leaf.few {f : Fil} (h : Leaf f) (n : Nat) : fewP (n + 1) f := by
 refine ⟨by rw [h.kd]; exact Nat.zero_le _, by have := h.at_; omega, by have := h.va; omega, by have := h.su; omega, fun v hv => by have := h.sv v hv; omega, fun g hg => ?_⟩
 rw [h.kd] at hg; cases hg

theorem f41 {k : Nat} {s : Str} (hs : s.length ≤ 160000) (hk : 160100 ≤ k) {r : Rd} (h : Okr s r) (hat : r.at_ ≤ (s.length : Int)) :
  ∃ r' f, F41 k r = some (r', f) ∧ Okr s r' ∧ r'.left = r.left ∧ r.at_ ≤ r'.at_ ∧ (r'.fails = false → r.fails = false) ∧ Leaf f := by
 have hlo := h.lo
 obtain ⟨r1, a1, a2, a3, a4, a5, a6⟩ := f41L0 k r.at_ (Api_Filter.mk 0 [] [] none none) hs k r h (by omega) (by omega)
 have a6' := a6 hat
 have hlo1 := a2.lo
 have hsub : ∃ z, Str.sub? r1.s_ (imin r.at_ r1.at_) r1.at_ = some z ∧ z.length ≤ 160000 := by
  have hm : imin r.at_ r1.at_ = r.at_ := by unfold imin; split <;> omega
  rw [hm]
  unfold Str.sub?
  rw [if_pos ⟨hlo, a5, by rw [a2.es]; omega⟩]
  refine ⟨_, rfl, ?_⟩
  simp only [List.length_drop, List.length_take, a2.es]
  omega
 obtain ⟨z, hz1, hz2⟩ := hsub
 unfold F41
 rw [bnd (f40 k h), bnd a1]
 simp only
 rw [bnd hz1, bnd (f40 k a2)]
 -- the sign
 have hmid : ∃ (kd : Int) (r2 : Rd), (if nx r1 == 62 then some ((Api_Filter.mk 5 z [] none none), (Filter_reader.mk r1.s_ (ad .i64 r1.at_ 1) r1.left r1.fails)) else
   Option.bind (if nx r1 == 60 then some ((Api_Filter.mk 6 z [] none none), (Filter_reader.mk r1.s_ (ad .i64 r1.at_ 1) r1.left r1.fails)) else some ((Api_Filter.mk 4 z [] none none), r1)) fun y90 => some (y90.1, y90.2)) = some (Api_Filter.mk kd z [] none none, r2) ∧ Okr s r2 ∧ r2.left = r1.left ∧ r1.at_ ≤ r2.at_ ∧ r2.fails = r1.fails ∧ (kd = 4 ∨ kd = 5 ∨ kd = 6) := by
  have adv : nx r1 ≠ 0 → Okr s ⟨r1.s_, ad .i64 r1.at_ 1, r1.left, r1.fails⟩ ∧ r1.at_ ≤ ad .i64 r1.at_ 1 := fun hnz => by
   obtain ⟨p1, p2⟩ := nx_pos a2 hnz
   rw [ad64 (show -9223372036854775808 ≤ r1.at_ + 1 ∧ r1.at_ + 1 < 9223372036854775808 by omega)]
   exact ⟨⟨a2.es, (show 0 ≤ r1.at_ + 1 by omega), (show r1.at_ + 1 ≤ (s.length : Int) + 3 by omega), fun _ => (show r1.at_ + 1 ≤ (s.length : Int) by omega)⟩, by omega⟩
  by_cases h1 : (nx r1 == 62) = true
  ·obtain ⟨q1, q2⟩ := adv (by rw [beq_iff_eq] at h1; omega)
   rw [if_pos h1]
   exact ⟨5, _, rfl, q1, rfl, q2, rfl, .inr (.inl rfl)⟩
  ·rw [if_neg h1]
   by_cases h2 : (nx r1 == 60) = true
   ·obtain ⟨q1, q2⟩ := adv (by rw [beq_iff_eq] at h2; omega)
    rw [if_pos h2]
    exact ⟨6, _, rfl, q1, rfl, q2, rfl, .inr (.inr rfl)⟩
   ·rw [if_neg h2]
    exact ⟨4, r1, rfl, a2, rfl, Int.le_refl _, rfl, .inl rfl⟩
 obtain ⟨kd, r2, m1, m2, m3, m4, m5, m6⟩ := hmid
 rw [bnd m1]
 simp only
 rw [bnd (f39 k m2 hs 61)]
 obtain ⟨o3, l3, t3, u3⟩ := byte_ok' m2 61
 obtain ⟨r4, v, c1, c2, c3, c4, c5, c6⟩ := f46 hs hk o3
 rw [bnd c1]
 simp only
 have hfl : r4.fails = false → r.fails = false := fun hff => by
  have := (u3 (c6 hff)).1
  rw [m5, a4] at this; exact this
 have hlo4 := c2.lo
 have hhi4 := c2.hi
 by_cases hq : kd = 4
 ·subst hq
  simp only [bne_self_eq_false, Bool.false_eq_true, if_false]
  rw [bnd (f40 k c2)]
  simp only [Option.bind_some]
  by_cases h42 : (nx r4 != 42) = true
  ·rw [if_pos h42]
   exact ⟨r4, _, rfl, c2, by rw [c3, l3, m3, a3], by omega, hfl, ⟨by simp, by simp, rfl, by simp only; omega, by simp only; omega, by simp [Sl.l], fun v hv => by cases hv⟩⟩
  ·rw [if_neg h42]
   obtain ⟨f5, r5, d1, d2, d3, d4, d5, d6, d7, d8, d9, d10, d11⟩ := f41L3 k hk (Api_Filter.mk 0 [] [] none none) hs k ⟨4, z, [], some [v], none⟩ r4 c2 (by omega) (by omega) (by simp [Sl.l]; omega) (fun u hu => by
    have hu' : u ∈ [v] := hu
    rw [List.mem_singleton] at hu'; subst hu'; exact c5)
   rw [bnd d1]
   simp only
   have hhi5 := d2.hi
   have at0 : (Sl.len f5.Subs == 2) = true → ∃ w0 w1, Sl.at? f5.Subs 0 = some w0 ∧ Sl.at? f5.Subs 1 = some w1 := fun hl => by
    rw [beq_iff_eq] at hl
    have hl' : (Sl.l f5.Subs).length = 2 := by simp only [Sl.len] at hl; omega
    have q0 : Sl.at? f5.Subs ((0 : Nat) : Int) = some (Sl.l f5.Subs)[0] := at_of (List.getElem?_eq_getElem (by omega))
    have q1 : Sl.at? f5.Subs ((1 : Nat) : Int) = some (Sl.l f5.Subs)[1] := at_of (List.getElem?_eq_getElem (by omega))
    exact ⟨_, _, q0, q1⟩
   have fin : ∀ b : Bool, ∃ f, (Option.bind (if b = true then some (Api_Filter.mk 7 f5.Attr f5.Value none f5.Kids) else some (Api_Filter.mk 8 f5.Attr f5.Value f5.Subs f5.Kids)) fun y191 => some (r5, y191)) = some (r5, f) ∧ Leaf f := fun b => by
    cases b
    ·exact ⟨_, rfl, ⟨by simp, by simp, d9, by simp only [d7]; omega, by simp only [d8]; simp, by simp only; omega, d11⟩⟩
    ·exact ⟨_, rfl, ⟨by simp, by simp, d9, by simp only [d7]; omega, by simp only [d8]; simp, by simp [Sl.l], fun v hv => by cases hv⟩⟩
   have done : ∀ b : Bool, ∃ r' f, (Option.bind (if b = true then some (Api_Filter.mk 7 f5.Attr f5.Value none f5.Kids) else some (Api_Filter.mk 8 f5.Attr f5.Value f5.Subs f5.Kids)) fun y191 => some (r5, y191)) = some (r', f) ∧ Okr s r' ∧ r'.left = r.left ∧ r.at_ ≤ r'.at_ ∧ (r'.fails = false → r.fails = false) ∧ Leaf f := fun b => by
    obtain ⟨f, e1, e2⟩ := fin b
    exact ⟨r5, f, e1, d2, by rw [d3, c3, l3, m3, a3], by omega, fun hff => hfl (d5 hff), e2⟩
   by_cases hl : (Sl.len f5.Subs == 2) = true
   ·obtain ⟨w0, w1, q0, q1⟩ := at0 hl
    rw [if_pos hl, bnd q0]
    simp only [Option.bind_some]
    by_cases hw : (w0 == []) = true
    ·rw [if_pos hw, bnd q1]
     simp only [Option.bind_some]
     exact done _
    ·rw [if_neg hw]
     simp only [Option.bind_some]
     exact done false
   ·rw [if_neg hl]
    simp only [Option.bind_some, Bool.false_eq_true, if_false]
    exact done false
 ·have hb : (kd != 4) = true := by rw [bne_iff_ne]; exact hq
  rw [if_pos hb]
  simp only [Option.bind_some, if_true]
  exact ⟨r4, _, rfl, c2, by rw [c3, l3, m3, a3], by omega, hfl, ⟨by simp only; omega, by simp only; omega, rfl, by simp only; omega, by simp only; omega, by simp [Sl.l], fun v hv => by cases hv⟩⟩
end Go.Proofs.Ythkjepoaddfoiaa.M
