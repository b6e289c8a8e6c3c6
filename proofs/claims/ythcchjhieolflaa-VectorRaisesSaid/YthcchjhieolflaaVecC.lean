/- VectorRaises in plain Lean: raised one by one. -/
import Derived.Test.YthcchjhieolflaaDVm
import Derived.Test.YthcchjhieolflaaVecA
namespace Go.Proofs.Ythcchjhieolflaa.M
open Go Go.Pam
set_option maxRecDepth 20000
set_option linter.unusedVariables false
set_option linter.unusedSimpArgs false

def lt2 (a b : CS) : Bool := (decide (a.Time < b.Time)) || ((a.Time == b.Time) && (decide (a.Seq < b.Seq)))

theorem lt2_iff {a b : CS} : lt2 a b = true ↔ (a.Time < b.Time ∨ (a.Time = b.Time ∧ a.Seq < b.Seq)) := by simp [lt2]

theorem isVf_set' : ∀ (i : Nat) (a : List CS) (n : Nat) (x : CS), isVf i a = true → x.Rep = ((i + n : Nat) : Int) → okC x = true → isVf i (a.set n x) = true
  | i, [], n, x, _, _, _ => by simp [isVf]
  | i, y :: a, 0, x, h, hr, ho => by
    simp only [List.set_cons_zero, isVf, Bool.and_eq_true, beq_iff_eq, decide_eq_true_eq] at h ⊢
    exact ⟨⟨⟨h.1.1.1, by simpa using hr⟩, ho⟩, h.2⟩
  | i, y :: a, n + 1, x, h, hr, ho => by
    simp only [List.set_cons_succ, isVf, Bool.and_eq_true] at h ⊢
    exact ⟨h.1, isVf_set' (i + 1) a n x h.2 (by rw [hr]; congr 1; omega) ho⟩

theorem set_self : ∀ (l : List CS) (n : Nat) (d : CS), l.set n (l.getD n d) = l
  | [], n, d => rfl
  | x :: l, 0, d => rfl
  | x :: l, n + 1, d => by simp only [List.set_cons_succ, List.getD_cons_succ]; rw [set_self l n d]

theorem l2 (k : Nat) (a : Sl CS) (c : CS) (ha : a.l.length ≤ 30) : ∀ (j n i : Nat) (v w : Sl CS), i + j = a.l.length → j < n → v.l = w.l → isVf 0 w.l = true → w.l.length = 3 →
    ∃ v' q w', F8_L2 (k + 8) a c n v (i : Int) w = some (v', q, w') ∧ v'.l = w'.l ∧ isVf 0 w'.l = true ∧ w'.l.length = 3
  | j, 0, i, v, w, _, h, _, _, _ => by omega
  | 0, n + 1, i, v, w, hij, _, hvw, hv, hl => by
    rw [F8_L2, if_neg (by simp [Sl.len]; omega)]
    exact ⟨_, _, _, rfl, hvw, hv, hl⟩
  | j + 1, n + 1, i, v, w, hij, hn, hvw, hv, hl => by
    have hi : i < a.l.length := by omega
    have e1 : Sl.at? a (i : Int) = some a.l[i] := by rw [Sl.at?_nat]; exact List.getElem?_eq_getElem hi
    rw [F8_L2, if_pos (by simp [Sl.len]; omega), bnd e1]
    generalize hx : a.l[i] = x at e1 ⊢
    obtain ⟨z, z1, z2⟩ := f24 k v x
    rw [bnd z1, bnd e1]
    rw [hvw, own_of hv] at z2
    simp only [ad_nat (show i < 9223372036854775000 by omega)]
    by_cases hc : ((((((decide (x.Time < 0)) || (decide (x.Time > 1099511627776))) || (decide (x.Seq < 0))) || (decide (x.Seq > 65535))) || (decide (x.Rep < 0))) || (decide (x.Rep > 2))) = true
    · rw [if_pos hc]
      simp only [Option.bind_some]
      refine l2 k a c ha j n (i + 1) z w (by omega) (by omega) ?_ hv hl
      rw [z2]; unfold raiseL; rw [if_neg]
      intro ⟨h1, h2⟩
      simp only [okC, Bool.and_eq_true, Bool.or_eq_true, decide_eq_true_eq] at h1 hc
      omega
    · rw [if_neg hc]
      have hc' := hc
      simp only [Bool.or_eq_true, decide_eq_true_eq] at hc'
      have ho : okC x = true := by simp only [okC, Bool.and_eq_true, decide_eq_true_eq]; omega
      have hr0 : 0 ≤ x.Rep := by omega
      have hr3 : x.Rep < w.l.length := by omega
      have hg := isVf_get 0 w.l hv x.Rep.toNat (w.l.getD x.Rep.toNat x) (by rw [List.getD_eq_getElem?_getD, List.getElem?_eq_getElem (by omega)]; rfl)
      have hz : z.l = w.l.set x.Rep.toNat (mx (w.l.getD x.Rep.toNat x) x) := by rw [z2]; unfold raiseL; rw [if_pos ⟨ho, hr3⟩]
      rw [bnd (at_get hr0 hr3 x)]
      generalize ht : w.l.getD x.Rep.toNat x = t at hg hz ⊢
      by_cases hu : ltb t x = true
      · have hu' : ((decide (x.Time > t.Time)) || ((x.Time == t.Time) && (decide (x.Seq > t.Seq)))) = true := by
          rw [ltb_iff] at hu; simp only [Bool.or_eq_true, Bool.and_eq_true, decide_eq_true_eq, beq_iff_eq]; omega
        rw [if_pos hu', bnd (at_get hr0 hr3 x)]
        simp only [Option.bind_some]
        have hmx : mx t x = x := by unfold mx; rw [if_pos hu]
        rw [hmx] at hz
        refine l2 k a c ha j n (i + 1) z (Sl.set w x.Rep x) (by omega) (by omega) (by rw [hz, Sl.set_l]) ?_ (by rw [Sl.set_l, List.length_set]; exact hl)
        rw [Sl.set_l]
        exact isVf_set' 0 _ _ _ hv (by omega) ho
      · have hu' : ¬ ((decide (x.Time > t.Time)) || ((x.Time == t.Time) && (decide (x.Seq > t.Seq)))) = true := by
          rw [ltb_iff] at hu; simp only [Bool.or_eq_true, Bool.and_eq_true, decide_eq_true_eq, beq_iff_eq]; omega
        rw [if_neg hu']
        simp only [Option.bind_some]
        have hmx : mx t x = t := by unfold mx; rw [if_neg hu]
        rw [hmx, ← ht, set_self] at hz
        exact l2 k a c ha j n (i + 1) z w (by omega) (by omega) hz hv hl

theorem l4 (k : Nat) (w v : Sl CS) (a : CS) (n i : Nat) (b t : CS) (hi : i < 3) (h1 : Sl.at? v (i : Int) = some t) (h2 : Sl.at? w (i : Int) = some t) :
    F8_L4 k w v a (n + 1) (i : Int) b = F8_L4 k w v a n ((i + 1 : Nat) : Int) (if lt2 t b = true then t else b) := by
  rw [F8_L4, if_pos (by simp; omega), bnd h1, bnd h2, if_neg (by simp), bnd h2, ad_nat (by omega)]
  have : (if decide (t.Time < b.Time) = true then some true else
      Option.bind (Sl.at? w (i : Int)) fun y611 => Option.bind (if (y611.Time == b.Time) = true then Option.bind (Sl.at? w (i : Int)) fun y617 => some (decide (y617.Seq < b.Seq)) else some false) fun y616 => some y616) = some (lt2 t b) := by
    unfold lt2
    by_cases h3 : t.Time < b.Time
    · simp [h3]
    · simp only [h2, Option.bind_some]
      by_cases h4 : t.Time = b.Time
      · simp [h4]
      · simp [h3, h4]
  rw [bnd this]
  cases lt2 t b
  · rfl
  · simp only [if_true, h2, Option.bind_some]

theorem l4_end (k : Nat) (w v : Sl CS) (a : CS) (n : Nat) (b : CS) : F8_L4 k w v a (n + 1) ((3 : Nat) : Int) b = some (.brk (((3 : Nat) : Int), b)) := by
  rw [F8_L4, if_neg (by simp)]

theorem first (a v : Sl CS) (c : CS) : ∃ w q, F8_L0 60 a v c 60 0 (some (List.replicate 3 (Api_CSN.mk 0 0 0))) = some (q, w) ∧ w.l = newL 0 3 := ⟨some (newL 0 3), 3, by kernel_rfl, rfl⟩

theorem F8_true (a : Sl CS) (c : CS) : F8 60 a c = some true := by
  unfold F8
  rw [bnd known11, if_neg (by simp)]
  by_cases ha : decide (Sl.len a > 30) = true
  · rw [if_pos ha]
  rw [if_neg ha]
  have ha' : a.l.length ≤ 30 := by
    have this : ¬ (Sl.len a > 30) := fun h => ha (decide_eq_true h)
    simp only [Sl.len] at this; omega
  obtain ⟨z, z1, z2⟩ := f20 52 3 3 (by omega) (by decide)
  obtain ⟨w, q, w1, w2⟩ := first a z c
  have hvf : isVf 0 (newL 0 3) = true := by decide
  obtain ⟨v', q', w', h1, h2, h3, h4⟩ := l2 52 a c ha' a.l.length 60 0 z w (by omega) (by omega) (by rw [z2, w2]) (by rw [w2]; exact hvf) (by rw [w2]; rfl)
  have h1' : F8_L2 60 a c 60 z 0 w = some (v', q', w') := h1
  rw [bnd z1, bnd w1]
  simp only
  rw [bnd h1']
  simp only
  rw [if_neg (by simp [Sl.len, h2, h4])]
  obtain ⟨t0, t1, t2, hT⟩ : ∃ t0 t1 t2, w'.l = [t0, t1, t2] := by
    match hw : w'.l, h4 with
    | [t0, t1, t2], _ => exact ⟨t0, t1, t2, rfl⟩
  rw [hT] at h2 h3
  have r0 := isVf_get 0 _ h3 0 t0 rfl
  have r1 := isVf_get 0 _ h3 1 t1 rfl
  have r2 := isVf_get 0 _ h3 2 t2 rfl
  have a0 : Sl.at? w' ((0 : Nat) : Int) = some t0 := by rw [Sl.at?_nat, hT]; rfl
  have a1 : Sl.at? w' ((1 : Nat) : Int) = some t1 := by rw [Sl.at?_nat, hT]; rfl
  have a2 : Sl.at? w' ((2 : Nat) : Int) = some t2 := by rw [Sl.at?_nat, hT]; rfl
  have b0 : Sl.at? v' ((0 : Nat) : Int) = some t0 := by rw [Sl.at?_nat, h2]; rfl
  have b1 : Sl.at? v' ((1 : Nat) : Int) = some t1 := by rw [Sl.at?_nat, h2]; rfl
  have b2 : Sl.at? v' ((2 : Nat) : Int) = some t2 := by rw [Sl.at?_nat, h2]; rfl
  have c0 : Sl.at? w' 0 = some t0 := a0
  rw [bnd c0]
  have hL : F8_L4 60 w' v' c 60 0 t0 = some (.brk (((3 : Nat) : Int), leastL [t0, t1, t2])) := by
    have s1 := l4 60 w' v' c 59 0 t0 t0 (by omega) b0 a0
    rw [show ((0 : Nat) : Int) = 0 from rfl] at s1
    rw [s1, l4 60 w' v' c 58 1 _ t1 (by omega) b1 a1, l4 60 w' v' c 57 2 _ t2 (by omega) b2 a2, l4_end]
    congr 3
    have m0 : (if lt2 t0 t0 = true then t0 else t0) = t0 := by split <;> rfl
    rw [m0]
    have m1 : (if lt2 t1 t0 = true then t1 else t0) = minF t0 t1 := by
      unfold minF
      have : lt2 t1 t0 = ltb t1 t0 := by rw [Bool.eq_iff_iff, lt2_iff, ltb_iff]; have := r0.1; have := r1.1; omega
      rw [this]
    rw [m1]
    have rm : (minF t0 t1).Rep < 2 := by unfold minF; have := r0.1; have := r1.1; split <;> omega
    have m2 : (if lt2 t2 (minF t0 t1) = true then t2 else minF t0 t1) = minF (minF t0 t1) t2 := by
      have : lt2 t2 (minF t0 t1) = ltb t2 (minF t0 t1) := by rw [Bool.eq_iff_iff, lt2_iff, ltb_iff]; have := r2.1; omega
      rw [this]; rfl
    rw [m2]; rfl
  rw [bnd hL]
  simp only
  have hv3 : own v'.l = [t0, t1, t2] := by rw [h2]; exact own_of h3
  have hf34 : F34 60 v' = some (leastL [t0, t1, t2]) := by rw [← hv3]; exact f34 52 v'
  have hf32 : F32 60 v' c = some (coversL [t0, t1, t2] c) := by rw [← hv3]; exact f32 52 v' c
  simp only [hf32, hf34, Option.bind_some]
  by_cases hr : 0 ≤ c.Rep ∧ c.Rep < 3
  · have hi : imax 0 (imin c.Rep 2) = c.Rep := by unfold imin imax; split <;> split <;> omega
    have hg : Sl.at? w' c.Rep = some ([t0, t1, t2].getD c.Rep.toNat c) := by rw [← hT]; exact at_get hr.1 (by rw [hT]; simp; omega) c
    have hgr := isVf_get 0 _ h3 c.Rep.toNat ([t0, t1, t2].getD c.Rep.toNat c) (by rw [List.getD_eq_getElem?_getD, List.getElem?_eq_getElem (by simp; omega)]; rfl)
    rw [if_pos (by simp [hr.1, hr.2]), hi]
    have hcov : coversL [t0, t1, t2] c = !ltb ([t0, t1, t2].getD c.Rep.toNat c) c := by
      unfold coversL
      simp [hr.1, hr.2]
    rw [hcov]
    generalize [t0, t1, t2].getD c.Rep.toNat c = t at hg hgr ⊢
    have key0 : (Option.bind (Sl.at? w' c.Rep) fun y660 =>
        Option.bind (if decide (c.Time < y660.Time) = true then some true else
          Option.bind (Sl.at? w' c.Rep) fun y673 =>
          Option.bind (if (c.Time == y673.Time) = true then Option.bind (Sl.at? w' c.Rep) fun y679 => some (decide (c.Seq ≤ y679.Seq)) else some false) fun y678 => some y678) fun y672 => some y672) = some (!ltb t c) := by
      simp only [hg, Option.bind_some]
      by_cases h5 : c.Time < t.Time
      · have : ltb t c = false := by rw [ltb_not]; omega
        simp [h5, this]
      · by_cases h6 : c.Time = t.Time
        · have : ltb t c = !decide (c.Seq ≤ t.Seq) := by
            rw [Bool.eq_iff_iff, ltb_iff]; simp; omega
          simp [h6, this]
        · have : ltb t c = true := by rw [ltb_iff]; omega
          simp [h5, h6, this]
    rw [bnd key0]
    simp
  · rw [if_neg (by simp only [Bool.and_eq_true, decide_eq_true_eq]; exact hr)]
    have hcov : coversL [t0, t1, t2] c = false := by
      unfold coversL
      have : (decide (c.Rep ≥ 0) && decide (c.Rep < ((List.length [t0, t1, t2] : Nat) : Int))) = false := by
        rw [Bool.eq_false_iff, ne_eq, Bool.and_eq_true, decide_eq_true_eq, decide_eq_true_eq]; exact hr
      rw [this]; rfl
    rw [hcov]
    simp
end Go.Proofs.Ythcchjhieolflaa.M
