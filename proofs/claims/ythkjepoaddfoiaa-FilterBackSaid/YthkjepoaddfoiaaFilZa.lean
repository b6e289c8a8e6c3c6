/- Filters: what is printed is read back. -/
import Derived.Test.YthkjepoaddfoiaaFilZ
import Derived.Test.YthkjepoaddfoiaaFilU
namespace Go.Proofs.Ythkjepoaddfoiaa.M
open Go Go.Pam
set_option maxRecDepth 20000
set_option linter.unusedVariables false
set_option linter.unusedSimpArgs false

def fwdL (r : Rd) (m : Nat) (c : Int) : Rd := ⟨r.s_, r.at_ + m, r.left - c, false⟩

theorem At.withLeft {r : Rd} {p : Str} (h : At r p) (x : Int) : At ⟨r.s_, r.at_, x, r.fails⟩ p := ⟨h.ok, h.lo, h.dr⟩
theorem At.fwdL {r : Rd} {p q : Str} (h : At r (p ++ q)) (c : Int) : At (M.fwdL r p.length c) q := by
 have := h.fwd.withLeft (r.left - c)
 exact this

inductive K2 (n : Nat) : List Fil → List Fil → Prop
 | nil : K2 n [] []
 | cons {f g l m} : sameS n f g = true → K2 n l m → K2 n (f :: l) (g :: m)

theorem K2.len {n : Nat} {l m : List Fil} (h : K2 n l m) : l.length = m.length := by
 induction h with
 | nil => rfl
 | cons _ _ ih => simp [ih]

theorem K2.all {n : Nat} {full : List Fil} : ∀ {l m : List Fil} (i : Nat), K2 n l m → (∀ j, m[j]? = full[i + j]?) → allFrom (fun i x => match full[i]? with | some y => sameS n x y | none => false) i l = true
 | [], [], i, _, _ => rfl
 | f :: l, g :: m, i, h, hf => by
  cases h with
  | cons h1 h2 =>
   have h0 : full[i]? = some g := by have := hf 0; simpa using this.symm
   have ih := K2.all (i + 1) h2 (fun j => by have := hf (j + 1); rw [show i + 1 + j = i + (j + 1) by omega]; simpa using this)
   show ((match full[i]? with | some y => sameS n f y | none => false) && _) = _
   rw [h0]
   simp only
   rw [h1, ih]; rfl

theorem prS_head {n : Nat} {f : Fil} (h : isS n f = true) : ∃ p, prS n f = 40 :: p := by
 cases n with
 | zero => cases h
 | succ n =>
  rw [prS]
  split
  ·exact ⟨_, rfl⟩
  ·split
   ·exact ⟨_, rfl⟩
   ·split
    ·exact ⟨_, rfl⟩
    ·exact ⟨_, rfl⟩

def RB (n : Nat) (k : Nat) : Prop := ∀ (f : Fil) (r : Rd) (rest : Str), isS n f = true → cS n f ≤ r.left → r.left ≤ 20 → At r (prS n f ++ rest) → r.s_.length ≤ 160000 →
 ∃ g, F28 k r = some (fwdL r (prS n f).length (cS n f), g) ∧ sameS n f g = true

theorem sum_nn (n : Nat) (l : List Fil) : 0 ≤ (l.map (cS n)).sum := by
 induction l with
 | nil => simp
 | cons x y ih => rw [List.map_cons, List.sum_cons]; have := (cS_range n x).1; omega

theorem rbK {n k : Nat} (hrb : RB n k) (a : Fil) : ∀ (l : List Fil) (m : Nat) (b : Fil) (r : Rd) (rest : Str), (∀ f ∈ l, isS n f = true) → (l.map (cS n)).sum ≤ r.left → r.left ≤ 20 → At r (l.flatMap (prS n) ++ 41 :: rest) → r.s_.length ≤ 160000 → l.length < m → (Sl.l b.Kids).length + l.length ≤ 200 →
  ∃ z l', F28_L1 (F28 k) k a m b r = some (⟨b.Kind, b.Attr, b.Value, b.Subs, z⟩, fwdL r (l.flatMap (prS n)).length (l.map (cS n)).sum) ∧ Sl.l z = Sl.l b.Kids ++ l' ∧ K2 n l l'
 | l, 0, _, _, _, _, _, _, _, _, hm, _ => by omega
 | [], m + 1, b, r, rest, _, _, _, h, hs, _, _ => by
  have h0 : At r (41 :: rest) := h
  have hl := h0.len (by simp)
  rw [List.length_cons] at hl
  refine ⟨b.Kids, [], ?_, by simp, .nil⟩
  rw [F28_L1, bnd (f40 k (h0.okr (by omega))), h0.nx, if_neg (by decide)]
  have he : fwdL r (([] : List Fil).flatMap (prS n)).length (([] : List Fil).map (cS n)).sum = r := by
   cases r
   have := h.ok
   simp only at this
   subst this
   simp [fwdL]
  rw [he]; cases b; rfl
 | f :: l, m + 1, b, r, rest, hi, hc, hle, h, hs, hm, hb => by
  rw [List.map_cons, List.sum_cons] at hc
  have hnn := sum_nn n l
  rw [List.flatMap_cons, List.append_assoc] at h
  obtain ⟨p, hp⟩ := prS_head (hi f List.mem_cons_self)
  have h0 : At r (40 :: (p ++ (l.flatMap (prS n) ++ 41 :: rest))) := by rw [hp] at h; exact h
  have hl := h0.len (by simp)
  rw [List.length_cons] at hl
  obtain ⟨g, g1, g2⟩ := hrb f r _ (hi f List.mem_cons_self) (by omega) hle h hs
  have hr := (cS_range n f).1
  obtain ⟨z, z1, z2⟩ := Sl.app?_l (α := Fil) (bytes := 88) (x := b.Kids) (ys := [g]) (by simp; omega)
  obtain ⟨z', l', d1, d2, d3⟩ := rbK hrb a l m ⟨b.Kind, b.Attr, b.Value, b.Subs, z⟩ (fwdL r (prS n f).length (cS n f)) rest (fun x hx => hi x (List.mem_cons_of_mem _ hx)) (by show _ ≤ r.left - cS n f; omega) (by show r.left - cS n f ≤ 20; omega) (h.fwdL _) hs (by simp only [List.length_cons] at hm; omega) (by show (Sl.l z).length + _ ≤ _; rw [z2]; simp only [List.length_append, List.length_cons, List.length_nil] at hb ⊢; omega)
  refine ⟨z', g :: l', ?_, by rw [d2]; show Sl.l z ++ l' = _; rw [z2, List.append_assoc]; rfl, .cons g2 d3⟩
  rw [F28_L1, bnd (f40 k (h0.okr (by omega))), h0.nx, if_pos (by decide), bnd g1, Sl.l_some]
  simp only
  rw [bnd z1, d1]
  have he : fwdL (fwdL r (prS n f).length (cS n f)) (l.flatMap (prS n)).length (l.map (cS n)).sum = fwdL r ((f :: l).flatMap (prS n)).length ((f :: l).map (cS n)).sum := by
   rw [List.map_cons, List.sum_cons, List.flatMap_cons, List.length_append]
   simp only [fwdL]
   congr 1 <;> omega
  rw [he]

theorem isS_kind {n : Nat} {f : Fil} (h : isS (n + 1) f = true) (hk : kidsK f.Kind = false) : isTy f.Attr = true := by
 rw [isS, hk, if_neg (by simp)] at h
 split at h
 ·simp only [Bool.and_eq_true] at h; exact h.1.1.1
 ·split at h
  ·simp only [Bool.and_eq_true] at h; exact h.1.1.1
  ·split at h
   ·simp only [Bool.and_eq_true] at h; exact h.1.1.1
   ·cases h

theorem prS_leaf {n : Nat} {f : Fil} (hk : kidsK f.Kind = false) : prS (n + 1) f = [40] ++ bodyS f ++ [41] := by
 rw [prS, hk, if_neg (by simp)]
 unfold bodyS
 split
 ·simp
 ·split
  ·simp
  ·simp

theorem rb : ∀ (n k : Nat), 160200 + n ≤ k → RB n k
 | 0, k, _ => fun f r rest hi => by cases hi
 | n + 1, 0, hk => by omega
 | n + 1, k + 1, hk => by
  intro f r rest hi hc hle h hs
  have hcr := cS_range (n + 1) f
  obtain ⟨p0, hp0⟩ := prS_head hi
  have e1 : sb .i64 r.left 1 = r.left - 1 := sb64 (by omega)
  rw [F28, e1, if_neg (by rw [decide_eq_true_eq]; omega), Option.bind_some]
  have ha : At ⟨r.s_, r.at_, r.left - 1, r.fails⟩ (prS (n + 1) f ++ rest) := h.withLeft _
  have ha0 : At ⟨r.s_, r.at_, r.left - 1, r.fails⟩ (40 :: (p0 ++ rest)) := by rw [hp0] at ha; exact ha
  have hb0 : F39 k ⟨r.s_, r.at_, r.left - 1, r.fails⟩ 40 = some (fwd ⟨r.s_, r.at_, r.left - 1, r.fails⟩ 1) := f39b (c := 40) ha0 hs
  rw [bnd hb0]
  have h1 : At (fwd ⟨r.s_, r.at_, r.left - 1, r.fails⟩ 1) (p0 ++ rest) := At.fwd (p := [40]) ha0
  generalize hr1 : fwd ⟨r.s_, r.at_, r.left - 1, r.fails⟩ 1 = r1 at h1 ⊢
  have hr1l : r1.left = r.left - 1 := by rw [← hr1]; rfl
  have hr1s : r1.s_ = r.s_ := by rw [← hr1]; rfl
  have hr1a : r1.at_ = r.at_ + 1 := by rw [← hr1]; rfl
  cases hkk : kidsK f.Kind with
  | true =>
   obtain ⟨hki, hsum⟩ := kids_of hkk hi (by omega)
   have hp1 : p0 = signK f.Kind ++ ((Sl.l f.Kids).flatMap (prS n)) ++ [41] := by
    have := hp0
    rw [prS, hkk, if_pos rfl] at this
    simpa using this.symm
   obtain ⟨c, hc1, hc2⟩ : ∃ c : UInt8, signK f.Kind = [c] ∧ ((f.Kind = 1 ∧ c = 38) ∨ (f.Kind = 2 ∧ c = 124) ∨ (f.Kind = 3 ∧ c = 33)) := by
    simp only [kidsK, Bool.and_eq_true, decide_eq_true_eq] at hkk
    have : f.Kind = 1 ∨ f.Kind = 2 ∨ f.Kind = 3 := by omega
    rcases this with e | e | e <;> rw [e] <;> simp [signK]
   have h2 : At r1 (c :: ((Sl.l f.Kids).flatMap (prS n) ++ 41 :: rest)) := by
    rw [hp1, hc1] at h1; simpa [List.append_assoc] using h1
   have hl2 := h2.len (by simp)
   rw [List.length_cons] at hl2
   have hlo := h2.lo
   have hlen2 : ((Sl.l f.Kids).flatMap (prS n) ++ 41 :: rest).length + 1 ≤ 160000 := by rw [hr1s] at hl2; omega
   rw [bnd (f40 k (h2.okr (by omega))), h2.nx]
   have hkind : (if (c.toNat : Int) == 38 then some ((Api_Filter.mk 1 [] [] none none), r1) else
     Option.bind (if (c.toNat : Int) == 124 then some ((Api_Filter.mk 2 [] [] none none), r1) else
     Option.bind (if (c.toNat : Int) == 33 then some ((Api_Filter.mk 3 [] [] none none), r1) else
     Option.bind (F41 k r1 ) fun y215 => some (y215.2, y215.1)) fun y212 => some (y212.1, y212.2)) fun y205 => some (y205.1, y205.2)) = some (Api_Filter.mk f.Kind [] [] none none, r1) := by
    rcases hc2 with ⟨e, rfl⟩ | ⟨e, rfl⟩ | ⟨e, rfl⟩
    ·rw [e, if_pos (by decide)]
    ·rw [e, if_neg (by decide), if_pos (by decide)]; rfl
    ·rw [e, if_neg (by decide), if_neg (by decide), if_pos (by decide)]; rfl
   rw [bnd hkind]
   simp only
   rw [bnd (f25 k f.Kind), hkk, if_pos rfl]
   have a1 : ad .i64 r1.at_ 1 = r1.at_ + 1 := ad64 (by rw [hr1s] at hl2; omega)
   have he : (⟨r1.s_, r1.at_ + 1, r1.left, r1.fails⟩ : Rd) = fwd r1 1 := by rw [h2.ok]; rfl
   have h3 : At (fwd r1 1) ((Sl.l f.Kids).flatMap (prS n) ++ 41 :: rest) := At.fwd (p := [c]) h2
   have hlk : (Sl.l f.Kids).length ≤ 20 := by
    have : ∀ l : List Fil, (l.length : Int) ≤ (l.map (cS n)).sum := by
     intro l
     induction l with
     | nil => simp
     | cons x y ih => rw [List.map_cons, List.sum_cons, List.length_cons]; have := (cS_range n x).1; omega
    have := this (Sl.l f.Kids)
    omega
   obtain ⟨z, l', d1, d2, d3⟩ := rbK (rb n k (by omega)) (Api_Filter.mk 0 [] [] none none) (Sl.l f.Kids) k ⟨f.Kind, [], [], none, none⟩ (fwd r1 1) rest (fun g hg => (hki g hg).1) (by show _ ≤ r1.left; omega) (by show r1.left ≤ 20; omega) h3 (by show r1.s_.length ≤ _; rw [hr1s]; exact hs) (by omega) (by show 0 + (Sl.l f.Kids).length ≤ 200; omega)
   rw [a1, he]
   have hn : nilThen (none : Sl Api_Filter) (Option.bind (F28_L1 (F28 k) k (Api_Filter.mk 0 [] [] none none) k ⟨f.Kind, [], [], none, none⟩ (fwd r1 1)) fun y427 => some (y427.1, y427.2)) = some (⟨f.Kind, [], [], none, z⟩, fwdL (fwd r1 1) ((Sl.l f.Kids).flatMap (prS n)).length ((Sl.l f.Kids).map (cS n)).sum) := by
    unfold nilThen
    rw [if_pos (show (none : Option (List Api_Filter)).isNone = true from rfl), bnd d1]
   rw [bnd hn]
   have h4 := h3.fwdL ((Sl.l f.Kids).map (cS n)).sum
   have hb4 : F39 k (fwdL (fwd r1 1) ((Sl.l f.Kids).flatMap (prS n)).length ((Sl.l f.Kids).map (cS n)).sum) 41 = some (fwd _ 1) := f39b (c := 41) h4 (by show r1.s_.length ≤ _; rw [hr1s]; exact hs)
   simp only
   rw [bnd hb4]
   refine ⟨⟨f.Kind, [], [], none, z⟩, ?_, ?_⟩
   ·have hpl : (prS (n + 1) f).length = 1 + 1 + ((Sl.l f.Kids).flatMap (prS n)).length + 1 := by
     rw [hp0, hp1, hc1]; simp only [List.length_cons, List.length_append, List.length_nil]; omega
    rw [hpl, ← hsum]
    simp only [fwd, fwdL]
    rw [hr1a, hr1l, hr1s]
    congr 2
    congr 1 <;> omega
   ·rw [isS, hkk, if_pos rfl] at hi
    simp only [Bool.and_eq_true, decide_eq_true_eq, beq_iff_eq] at hi
    obtain ⟨⟨⟨⟨i1, i2⟩, i3⟩, i4⟩, i5⟩ := hi
    have hz : Sl.l z = l' := d2
    rw [sameS]
    simp only [Bool.and_eq_true, decide_eq_true_eq, beq_iff_eq]
    refine ⟨⟨⟨⟨⟨trivial, i1⟩, i2⟩, List.eq_nil_of_length_eq_zero i3⟩, ?_⟩, ?_⟩
    ·show _ = (Sl.l z).length
     rw [hz]; exact d3.len
    ·show allFrom (fun i x => match (Sl.l z)[i]? with | some y => sameS n x y | none => false) 0 (Sl.l f.Kids) = true
     rw [hz]
     exact d3.all 0 (fun j => by rw [Nat.zero_add])
  | false =>
   have hty := isS_kind hi hkk
   have hp1 : p0 = bodyS f ++ [41] := by
    have := hp0
    rw [prS_leaf hkk] at this
    simpa using this.symm
   have h2 : At r1 (bodyS f ++ 41 :: rest) := by rw [hp1] at h1; simpa [List.append_assoc] using h1
   obtain ⟨c, q, hcq, hct⟩ : ∃ c q, bodyS f = c :: q ∧ tyByte (c.toNat : Int) = true := by
    cases hA : f.Attr with
    | nil => rw [hA] at hty; cases hty
    | cons c0 r0 =>
     rw [hA] at hty
     simp only [isTy, Bool.and_eq_true] at hty
     refine ⟨c0, ?_⟩
     unfold bodyS
     rw [hA]
     split
     ·exact ⟨_, rfl, (List.all_eq_true.1 hty.2) c0 List.mem_cons_self⟩
     ·split
      ·exact ⟨_, rfl, (List.all_eq_true.1 hty.2) c0 List.mem_cons_self⟩
      ·exact ⟨_, rfl, (List.all_eq_true.1 hty.2) c0 List.mem_cons_self⟩
   have h2' : At r1 (c :: (q ++ 41 :: rest)) := by rw [hcq] at h2; exact h2
   have hl2 := h2'.len (by simp)
   rw [List.length_cons] at hl2
   rw [bnd (f40 k (h2'.okr (by omega))), h2'.nx]
   obtain ⟨g, g1, g2⟩ := f41R (k := k) (by omega) hi hkk h2 (by rw [hr1s]; exact hs)
   have hn1 : ¬ ((c.toNat : Int) == 38) = true := by intro hh; rw [beq_iff_eq] at hh; rw [hh] at hct; exact absurd hct (by decide)
   have hn2 : ¬ ((c.toNat : Int) == 124) = true := by intro hh; rw [beq_iff_eq] at hh; rw [hh] at hct; exact absurd hct (by decide)
   have hn3 : ¬ ((c.toNat : Int) == 33) = true := by intro hh; rw [beq_iff_eq] at hh; rw [hh] at hct; exact absurd hct (by decide)
   rw [if_neg hn1, if_neg hn2, if_neg hn3, bnd g1]
   simp only [Option.bind_some]
   rw [bnd (f25 k g.Kind), g2.kd, hkk, if_neg (by simp), Option.bind_some]
   have h3 := h2.fwd
   have hb3 : F39 k (fwd r1 (bodyS f).length) 41 = some (fwd _ 1) := f39b (c := 41) h3 (by show r1.s_.length ≤ _; rw [hr1s]; exact hs)
   rw [bnd hb3]
   have hc1 : cS (n + 1) f = 1 := by rw [cS, hkk, if_neg (by simp)]
   have hk0 : Sl.l f.Kids = [] := by
    rw [isS, hkk, if_neg (by simp)] at hi
    apply List.eq_nil_of_length_eq_zero
    split at hi
    ·simp only [Bool.and_eq_true, decide_eq_true_eq] at hi; exact hi.2
    ·split at hi
     ·simp only [Bool.and_eq_true, decide_eq_true_eq] at hi; exact hi.1.2
     ·split at hi
      ·simp only [Bool.and_eq_true, decide_eq_true_eq] at hi; exact hi.2
      ·cases hi
   refine ⟨g, ?_, ?_⟩
   ·rw [prS_leaf hkk, hc1]
    simp only [List.length_append, List.length_cons, List.length_nil, fwd, fwdL]
    rw [hr1a, hr1l, hr1s]
    congr 2
    congr 1; omega
   ·rw [sameS]
    simp only [Bool.and_eq_true, decide_eq_true_eq, beq_iff_eq]
    refine ⟨⟨⟨⟨⟨g2.kd.symm, g2.at_.symm⟩, g2.vl.symm⟩, g2.sb.symm⟩, ?_⟩, ?_⟩
    ·rw [g2.ks, hk0]
    ·rw [hk0]; rfl

end Go.Proofs.Ythkjepoaddfoiaa.M
