/- VectorLattice in plain Lean: joins and meets of valid vectors of one length. -/
import Derived.Test.YthcchjhieolflaaDVl
import Derived.Test.YthcchjhieolflaaVecA
namespace Go.Proofs.Ythcchjhieolflaa.M
open Go Go.Pam
set_option maxRecDepth 20000
set_option linter.unusedVariables false
set_option linter.unusedSimpArgs false

theorem ltb_mx (x y d : CS) : ltb (mx x y) d = (ltb x d && ltb y d) := by
  rw [Bool.eq_iff_iff, Bool.and_eq_true]; unfold mx
  split <;> rename_i h <;> simp only [ltb_iff] at * <;> omega
theorem ltb_mx' (x y d : CS) : ltb d (mx x y) = (ltb d x || ltb d y) := by
  rw [Bool.eq_iff_iff, Bool.or_eq_true]; unfold mx
  split <;> rename_i h <;> simp only [ltb_iff] at * <;> omega
theorem ltb_mn (x y d : CS) : ltb (mn x y) d = (ltb x d || ltb y d) := by
  rw [Bool.eq_iff_iff, Bool.or_eq_true]; unfold mn
  split <;> rename_i h <;> simp only [ltb_iff] at * <;> omega
theorem ltb_mn' (x y d : CS) : ltb d (mn x y) = (ltb d x && ltb d y) := by
  rw [Bool.eq_iff_iff, Bool.and_eq_true]; unfold mn
  split <;> rename_i h <;> simp only [ltb_iff] at * <;> omega
theorem mx_or (x y : CS) : mx x y = x ∨ mx x y = y := by unfold mx; split <;> simp
theorem mn_or (x y : CS) : mn x y = x ∨ mn x y = y := by unfold mn; split <;> simp

theorem mx_assoc (a b c : CS) : mx (mx a b) c = mx a (mx b c) := by
  apply ltb_tri
  · simp only [ltb_mx, ltb_mx', ltb_irr]
    have h1 := @ltb_asym a b; have h2 := @ltb_asym a c; have h3 := @ltb_asym b c
    revert h1 h2 h3
    cases ltb a b <;> cases ltb a c <;> cases ltb b c <;> cases ltb b a <;> cases ltb c a <;> cases ltb c b <;> simp
  · simp only [ltb_mx, ltb_mx', ltb_irr]
    have h1 := @ltb_asym a b; have h2 := @ltb_asym a c; have h3 := @ltb_asym b c
    revert h1 h2 h3
    cases ltb a b <;> cases ltb a c <;> cases ltb b c <;> cases ltb b a <;> cases ltb c a <;> cases ltb c b <;> simp

theorem mx_mn (x y : CS) : mx x (mn x y) = x := by
  apply ltb_tri
  · simp [ltb_mx, ltb_irr]
  · simp only [ltb_mx', ltb_mn', ltb_irr]; rfl

theorem vJ : ∀ (i : Nat) (a b : List CS), isVf i a = true → isVf i b = true → isVf i (joinL a b) = true
  | i, [], b, _, h => by simpa [joinL] using h
  | i, x :: a, [], h, _ => by simpa [joinL] using h
  | i, x :: a, y :: b, h1, h2 => by
    simp only [isVf, joinL, Bool.and_eq_true] at h1 h2 ⊢
    refine ⟨?_, vJ (i + 1) a b h1.2 h2.2⟩
    rcases mx_or x y with h | h <;> rw [h]
    · exact h1.1
    · exact h2.1
theorem vM : ∀ (i : Nat) (a b : List CS), isVf i a = true → isVf i b = true → isVf i (meetL a b) = true
  | i, [], b, _, h => by simp [meetL, isVf]
  | i, x :: a, [], h, _ => by simp [meetL, isVf]
  | i, x :: a, y :: b, h1, h2 => by
    simp only [isVf, meetL, Bool.and_eq_true] at h1 h2 ⊢
    refine ⟨?_, vM (i + 1) a b h1.2 h2.2⟩
    rcases mn_or x y with h | h <;> rw [h]
    · exact h1.1
    · exact h2.1

theorem leqJ : ∀ (a b : List CS), a.length = b.length → leqL a (joinL a b) = true
  | [], b, _ => rfl
  | x :: a, y :: b, h => by
    simp only [joinL, leqL, ltb_mx, ltb_irr, Bool.false_and, Bool.not_false, Bool.true_and]
    exact leqJ a b (by simpa using h)
theorem leqM : ∀ (a b : List CS), a.length = b.length → leqL (meetL a b) a = true
  | [], b, _ => rfl
  | x :: a, y :: b, h => by
    simp only [meetL, leqL, ltb_mn', ltb_irr, Bool.false_and, Bool.not_false, Bool.true_and]
    exact leqM a b (by simpa using h)
theorem leqM2 : ∀ (a b : List CS), a.length = b.length → leqL (meetL a b) b = true
  | [], [], _ => rfl
  | x :: a, y :: b, h => by
    simp only [meetL, leqL, ltb_mn', ltb_irr, Bool.and_false, Bool.not_false, Bool.true_and]
    exact leqM2 a b (by simpa using h)
theorem lubJ : ∀ (a b c : List CS), leqL a c = true → leqL b c = true → leqL (joinL a b) c = true
  | [], b, c, _, h => by simpa [joinL] using h
  | x :: a, [], c, h, _ => by simpa [joinL] using h
  | x :: a, y :: b, [], h, _ => by simp [leqL] at h
  | x :: a, y :: b, z :: c, h1, h2 => by
    simp only [joinL, leqL, ltb_mx', Bool.and_eq_true, Bool.not_eq_true', Bool.or_eq_false_iff] at h1 h2 ⊢
    exact ⟨⟨h1.1, h2.1⟩, lubJ a b c h1.2 h2.2⟩
theorem glbM : ∀ (a b c : List CS), leqL c a = true → leqL c b = true → leqL c (meetL a b) = true
  | a, b, [], _, _ => by simp [leqL]
  | [], b, z :: c, h, _ => by simp [leqL] at h
  | x :: a, [], z :: c, _, h => by simp [leqL] at h
  | x :: a, y :: b, z :: c, h1, h2 => by
    simp only [meetL, leqL, ltb_mn, Bool.and_eq_true, Bool.not_eq_true', Bool.or_eq_false_iff] at h1 h2 ⊢
    exact ⟨⟨h1.1, h2.1⟩, glbM a b c h1.2 h2.2⟩
theorem joinL_assoc : ∀ (a b c : List CS), joinL (joinL a b) c = joinL a (joinL b c)
  | [], b, c => by simp [joinL]
  | x :: a, [], c => by simp [joinL]
  | x :: a, y :: b, [] => by simp [joinL]
  | x :: a, y :: b, z :: c => by simp only [joinL]; rw [mx_assoc, joinL_assoc a b c]
theorem absorb : ∀ (a b : List CS), a.length = b.length → joinL a (meetL a b) = a
  | [], b, _ => by simp [joinL, meetL]
  | x :: a, y :: b, h => by simp only [meetL, joinL]; rw [mx_mn, absorb a b (by simpa using h)]

theorem joinL_len : ∀ (a b : List CS), a.length = b.length → (joinL a b).length = a.length
  | [], [], _ => rfl
  | x :: a, y :: b, h => by simp only [joinL, List.length_cons]; rw [joinL_len a b (by simpa using h)]
theorem meetL_len : ∀ (a b : List CS), a.length = b.length → (meetL a b).length = a.length
  | [], [], _ => rfl
  | x :: a, y :: b, h => by simp only [meetL, List.length_cons]; rw [meetL_len a b (by simpa using h)]

theorem joinL_getD : ∀ (a b : List CS) (n : Nat) (d : CS), a.length = b.length → n < a.length → (joinL a b).getD n d = mx (a.getD n d) (b.getD n d)
  | x :: a, y :: b, 0, d, h, _ => rfl
  | x :: a, y :: b, n + 1, d, h, hn => by
    simp only [joinL, List.getD_cons_succ]
    exact joinL_getD a b n d (by simpa using h) (by simpa using hn)
theorem meetL_getD : ∀ (a b : List CS) (n : Nat) (d : CS), a.length = b.length → n < a.length → (meetL a b).getD n d = mn (a.getD n d) (b.getD n d)
  | x :: a, y :: b, 0, d, h, _ => rfl
  | x :: a, y :: b, n + 1, d, h, hn => by
    simp only [meetL, List.getD_cons_succ]
    exact meetL_getD a b n d (by simpa using h) (by simpa using hn)

theorem coversJ (a b : List CS) (d : CS) (h : a.length = b.length) : coversL (joinL a b) d = (coversL a d || coversL b d) := by
  unfold coversL
  rw [joinL_len a b h, ← h]
  by_cases hr : 0 ≤ d.Rep ∧ d.Rep < a.length
  · rw [joinL_getD a b _ d h (by omega), ltb_mx]
    simp only [hr.1, hr.2, ge_iff_le, decide_true, Bool.true_and, Bool.not_and]
  · have : (decide (d.Rep ≥ 0) && decide (d.Rep < (a.length : Int))) = false := by
      rw [Bool.eq_false_iff, ne_eq, Bool.and_eq_true, decide_eq_true_eq, decide_eq_true_eq]; exact hr
    rw [this]; rfl
theorem coversM (a b : List CS) (d : CS) (h : a.length = b.length) : coversL (meetL a b) d = (coversL a d && coversL b d) := by
  unfold coversL
  rw [meetL_len a b h, ← h]
  by_cases hr : 0 ≤ d.Rep ∧ d.Rep < a.length
  · rw [meetL_getD a b _ d h (by omega), ltb_mn]
    simp only [hr.1, hr.2, ge_iff_le, decide_true, Bool.true_and, Bool.not_or]
  · have : (decide (d.Rep ≥ 0) && decide (d.Rep < (a.length : Int))) = false := by
      rw [Bool.eq_false_iff, ne_eq, Bool.and_eq_true, decide_eq_true_eq, decide_eq_true_eq]; exact hr
    rw [this]; rfl

theorem leq_refl : ∀ (a : List CS), leqL a a = true
  | [] => rfl
  | x :: a => by simp [leqL, ltb_irr, leq_refl a]
theorem leq_set : ∀ (a : List CS) (n : Nat) (c d : CS), n < a.length → leqL a (a.set n (mx (a.getD n d) c)) = true
  | x :: a, 0, c, d, _ => by simp [leqL, ltb_mx, ltb_irr, leq_refl]
  | x :: a, n + 1, c, d, h => by
    simp only [List.set_cons_succ, leqL, ltb_irr, Bool.not_false, Bool.true_and, List.getD_cons_succ]
    exact leq_set a n c d (by simpa using h)
theorem isVf_set : ∀ (i : Nat) (a : List CS) (n : Nat) (x : CS), isVf i a = true → x.Rep = ((i + n : Nat) : Int) → okC x = true → isVf i (a.set n x) = true
  | i, [], n, x, _, _, _ => by simp [isVf]
  | i, y :: a, 0, x, h, hr, ho => by
    simp only [List.set_cons_zero, isVf, Bool.and_eq_true, beq_iff_eq, decide_eq_true_eq] at h ⊢
    exact ⟨⟨⟨h.1.1.1, by simpa using hr⟩, ho⟩, h.2⟩
  | i, y :: a, n + 1, x, h, hr, ho => by
    simp only [List.set_cons_succ, isVf, Bool.and_eq_true] at h ⊢
    exact ⟨h.1, isVf_set (i + 1) a n x h.2 (by rw [hr]; congr 1; omega) ho⟩

theorem raise_valid {a : List CS} (c : CS) (h : isVf 0 a = true) : isVf 0 (raiseL a c) = true := by
  unfold raiseL; split
  · rename_i hc
    have hr := okC_rep hc.1
    have hn : c.Rep.toNat < a.length := by omega
    have hg := isVf_get 0 a h c.Rep.toNat (a.getD c.Rep.toNat c) (by rw [List.getD_eq_getElem?_getD, List.getElem?_eq_getElem hn]; rfl)
    refine isVf_set 0 a _ _ h ?_ ?_
    · rcases mx_or (a.getD c.Rep.toNat c) c with e | e <;> rw [e]
      · exact hg.1
      · omega
    · rcases mx_or (a.getD c.Rep.toNat c) c with e | e <;> rw [e]
      · exact hg.2
      · exact hc.1
  · exact h
theorem leq_raise (a : List CS) (c : CS) : leqL a (raiseL a c) = true := by
  unfold raiseL; split
  · rename_i hc
    have hr := okC_rep hc.1
    exact leq_set a _ c c (by omega)
  · exact leq_refl a

theorem F7_true (a b c : Sl CS) (d : CS) : F7 60 a b c d = some true := by
  unfold F7
  rw [bnd known11, if_neg (by simp), bnd (f22 52 a)]
  cases ha : isVf 0 a.l with
  | false => simp
  | true =>
  rw [if_neg (by simp), bnd (f22 52 b)]
  cases hb : isVf 0 b.l with
  | false => simp
  | true =>
  simp only [Option.bind_some, Bool.not_true, Bool.false_eq_true, if_false]
  rw [bnd (f22 52 c)]
  cases hc : isVf 0 c.l with
  | false => simp
  | true =>
  simp only [Option.bind_some, Bool.not_true, Bool.false_or]
  by_cases hl : ((Sl.len a != Sl.len b) || (Sl.len b != Sl.len c)) = true
  · rw [if_pos hl]
  rw [if_neg hl]
  have hab : a.l.length = b.l.length := by
    simp only [Sl.len, Bool.or_eq_true, bne_iff_ne, ne_eq, not_or, Decidable.not_not] at hl; omega
  have hbc : b.l.length = c.l.length := by
    simp only [Sl.len, Bool.or_eq_true, bne_iff_ne, ne_eq, not_or, Decidable.not_not] at hl; omega
  have oa := own_of ha; have ob := own_of hb; have oc := own_of hc
  obtain ⟨j, j1, j2⟩ := f26 52 a b
  obtain ⟨m, m1, m2⟩ := f28 52 a b
  rw [oa, ob] at j2 m2
  have oj : own j.l = j.l := own_of (by rw [j2]; exact vJ 0 _ _ ha hb)
  have om : own m.l = m.l := own_of (by rw [m2]; exact vM 0 _ _ ha hb)
  obtain ⟨jc, p1, p2⟩ := f26 52 j c
  obtain ⟨bc, p3, p4⟩ := f26 52 b c
  obtain ⟨abc, p5, p6⟩ := f26 52 a bc
  obtain ⟨ba, p7, p8⟩ := f26 52 b a
  obtain ⟨am, p9, p10⟩ := f26 52 a m
  obtain ⟨ra, r1, r2⟩ := f24 52 a d
  rw [oj, oc, j2] at p2
  rw [ob, oc] at p4
  have obc : own bc.l = bc.l := own_of (by rw [p4]; exact vJ 0 _ _ hb hc)
  rw [oa, obc, p4] at p6
  rw [ob, oa] at p8
  rw [oa, om, m2] at p10
  rw [oa] at r2
  have ora : own ra.l = ra.l := own_of (by rw [r2]; exact raise_valid d ha)
  have x30 : ∀ x y : Sl CS, F30 60 x y = some (leqL (own x.l) (own y.l)) := f30 52
  have x32 : ∀ (x : Sl CS) (y : CS), F32 60 x y = some (coversL (own x.l) y) := f32 52
  have x36 : ∀ x y : Sl CS, F36 60 x y = some (decide (own x.l = own y.l)) := f36 52
  have q1 : leqL a.l j.l = true := by rw [j2]; exact leqJ _ _ hab
  have q2 : leqL b.l j.l = true := by rw [j2, joinL_comm]; exact leqJ _ _ hab.symm
  have q3 : leqL m.l a.l = true := by rw [m2]; exact leqM _ _ hab
  have q4 : leqL m.l b.l = true := by rw [m2]; exact leqM2 _ _ hab
  have q5 : ∀ x, leqL a.l x = true → leqL b.l x = true → leqL j.l x = true := by rw [j2]; exact lubJ _ _
  have q6 : ∀ x, leqL x a.l = true → leqL x b.l = true → leqL x m.l = true := by rw [m2]; exact glbM _ _
  have q7 : jc.l = abc.l := by rw [p2, p6, joinL_assoc]
  have q8 : ba.l = j.l := by rw [j2, p8, joinL_comm]
  have q9 : am.l = a.l := by rw [p10, absorb _ _ hab]
  have q10 : coversL j.l d = (coversL a.l d || coversL b.l d) := by rw [j2]; exact coversJ _ _ d hab
  have q11 : coversL m.l d = (coversL a.l d && coversL b.l d) := by rw [m2]; exact coversM _ _ d hab
  have q12 : leqL a.l ra.l = true := by rw [r2]; exact leq_raise _ _
  have j1' : F26 60 a b = some j := j1
  have m1' : F28 60 a b = some m := m1
  have p1' : F26 60 j c = some jc := p1
  have p3' : F26 60 b c = some bc := p3
  have p5' : F26 60 a bc = some abc := p5
  have p7' : F26 60 b a = some ba := p7
  have p9' : F26 60 a m = some am := p9
  have r1' : F24 60 a d = some ra := r1
  simp only [j1', m1', p1', p3', p5', p7', p9', r1', x30, x32, x36, oa, ob, oc, oj, om, obc, ora, q1, q2, q3, q4, q7, q8, q9, q10, q11, q12, Option.bind_some, if_true]
  have q5' := q5 c.l
  have q6' := q6 c.l
  revert q5' q6'
  generalize leqL j.l c.l = v1
  generalize leqL c.l m.l = v2
  cases leqL a.l c.l <;> cases leqL b.l c.l <;> cases leqL c.l a.l <;> cases leqL c.l b.l <;> cases coversL a.l d <;> cases coversL b.l d <;> cases v1 <;> cases v2 <;> simp
end Go.Proofs.Ythcchjhieolflaa.M
