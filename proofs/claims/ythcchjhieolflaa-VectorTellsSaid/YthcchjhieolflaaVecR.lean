/- Vectors: the short forms, and that they answer alike. -/
import Derived.Test.YthcchjhieolflaaDVt
import Derived.Test.YthcchjhieolflaaVecA
namespace Go.Proofs.Ythcchjhieolflaa.M
open Go Go.Pam
set_option maxRecDepth 20000
set_option linter.unusedVariables false
set_option linter.unusedSimpArgs false

theorem f51 (k : Nat) (a b : CS) : F51 k a b = some (cmpC a b) := by
  unfold F51 cmpC
  by_cases h : ltb a b = true
  · rw [if_pos h, if_pos (by simpa [ltb] using h)]
  · rw [if_neg h, if_neg (by simpa [ltb] using h)]
    by_cases h2 : ltb b a = true
    · rw [if_pos h2, if_neg]
      rw [ltb_iff] at h2
      simp; omega
    · rw [if_neg h2, if_pos]
      have := ltb_tri (by simpa using h) (by simpa using h2)
      subst this; simp

theorem f49 (k : Nat) (a b : CS) : F49 k a b = some (mx a b) := by
  unfold F49 mx
  rw [bnd (f51 _ _ _)]
  by_cases h : ltb a b = true
  · rw [if_pos h, if_neg]
    have := cmp_lt.2 h
    simp; omega
  · rw [if_neg h, if_pos]
    have := cmp_ge.2 (by simpa using h)
    simpa using this

theorem f45 (k : Nat) (c : CS) : F45 k c = some (okC c) := rfl

theorem f23L (k : Nat) (x : Sl CS) : ∀ (j n i : Nat), i + j = 7 → j < n → i ≤ x.l.length → F23_L0 k x n i = some (if isVf i (x.l.drop i) = true then .brk (x.l.length : Int) else .ret false)
  | j, 0, i, _, h, _ => by omega
  | j, n + 1, i, hij, hn, hi => by
    rw [F23_L0]
    by_cases hl : i < x.l.length
    · rw [if_pos (by simp [Sl.len]; omega)]
      have e1 : Sl.at? x (i : Int) = some x.l[i] := by rw [Sl.at?_nat]; exact List.getElem?_eq_getElem hl
      rw [bnd e1, drop_cons hl, bnd (f45 _ _)]
      simp only [isVf]
      by_cases ho : okC x.l[i] = true
      · have hr6 : x.l[i].Rep < 6 := by
          have ho := ho
          simp only [okC, Bool.and_eq_true, decide_eq_true_eq] at ho; exact ho.2
        by_cases hr : x.l[i].Rep = (i : Int)
        · have h6 : i < 6 := by omega
          obtain ⟨j', rfl⟩ : ∃ j', j = j' + 1 := ⟨j - 1, by omega⟩
          have ih := f23L k x j' n (i + 1) (by omega) (by omega) (by omega)
          rw [show ((i + 1 : Nat) : Int) = (i : Int) + 1 by omega] at ih
          simp [ho, e1, hr, h6, ad_nat (show i < 9223372036854775000 by omega), ih]
        · simp [ho, e1, hr]
      · simp [ho]
    · have : i = x.l.length := by omega
      subst this
      rw [if_neg (by simp [Sl.len])]
      simp [isVf]

theorem f23 (k : Nat) (x : Sl CS) : F23 (k + 8) x = some (isVf 0 x.l) := by
  unfold F23
  have := f23L (k + 8) x 7 (k + 8) 0 (by omega) (by omega) (by omega)
  rw [List.drop_zero] at this
  rw [bnd (by simpa using this)]
  by_cases h : isVf 0 x.l = true
  · have hl := isVf_len 0 x.l h (by omega)
    have : decide (Sl.len x ≤ 6) = true := decide_eq_true (by simp only [Sl.len]; omega)
    simp [h, this]
  · simp [h]

theorem f37 (k : Nat) (x : Sl CS) : ∃ y, F37 (k + 8) x = some y ∧ y.l = own x.l := by
  unfold F37 own
  rw [bnd (f23 _ _)]
  cases h : isVf 0 x.l
  · exact ⟨none, rfl, rfl⟩
  · have hl := isVf_len 0 x.l h (by omega)
    obtain ⟨z, h1, h2⟩ := Sl.app?_l (α := CS) (bytes := 24) (x := none) (ys := x.l) (by simp [Sl.l_none]; omega)
    rw [if_neg (by simp), bnd h1]
    exact ⟨z, rfl, by rw [h2, Sl.l_none, if_pos rfl, List.nil_append]⟩

theorem f25 (k : Nat) (x : Sl CS) (c : CS) : ∃ z, F25 (k + 8) x c = some z ∧ z.l = raiseL (own x.l) c := by
  obtain ⟨y, h1, h2⟩ := f37 k x
  unfold F25
  rw [bnd h1, bnd (f45 _ _)]
  rw [← h2]
  exact raise_tail y c (k + 8) F49 (fun a b => f49 _ a b)

theorem f27L (k : Nat) (b : Sl CS) (h6 : b.l.length ≤ 6) : ∀ (j n i : Nat) (w : Sl CS), i + j = b.l.length → j < n → i ≤ w.l.length → w.l.length ≤ 12 → ∃ q w', F27_L0 k b n i w = some (q, w') ∧ w'.l = w.l.take i ++ joinL (w.l.drop i) (b.l.drop i)
  | j, 0, i, w, _, h, _, _ => by omega
  | 0, n + 1, i, w, hij, _, _, _ => by
    rw [F27_L0, if_neg (by simp [Sl.len]; omega)]
    refine ⟨_, _, rfl, ?_⟩
    rw [show b.l.drop i = [] from List.drop_eq_nil_of_le (by omega), joinL_nil, List.take_append_drop]
  | j + 1, n + 1, i, w, hij, hn, hi, hw12 => by
    have hb : i < b.l.length := by omega
    have e1 : Sl.at? b (i : Int) = some b.l[i] := by rw [Sl.at?_nat]; exact List.getElem?_eq_getElem hb
    by_cases hw : i < w.l.length
    · have e2 : Sl.at? w (i : Int) = some w.l[i] := by rw [Sl.at?_nat]; exact List.getElem?_eq_getElem hw
      obtain ⟨q, w', h1, h2⟩ := f27L k b h6 j n (i + 1) (Sl.set w (i : Int) (mx w.l[i] b.l[i])) (by omega) (by omega) (by rw [Sl.set_l, List.length_set]; omega) (by rw [Sl.set_l, List.length_set]; omega)
      refine ⟨q, w', ?_, ?_⟩
      · rw [F27_L0, if_pos (by simp [Sl.len]; omega), if_pos (by simp [Sl.len]; omega), bnd e2, bnd e1, bnd (f49 _ _ _), bnd e2]
        simp only [Option.bind_some]
        rw [ad_nat (by omega)]
        exact h1
      · rw [h2, Sl.set_l, Int.toNat_natCast, set_take hw, set_drop, drop_cons hw, drop_cons hb, joinL, List.append_assoc]
        rfl
    · have hwi : w.l.length = i := by omega
      obtain ⟨z, h3, h4⟩ := Sl.app?_l (α := CS) (bytes := 24) (x := w) (ys := [b.l[i]]) (by simp; omega)
      obtain ⟨q, w', h1, h2⟩ := f27L k b h6 j n (i + 1) z (by omega) (by omega) (by rw [h4]; simp; omega) (by rw [h4]; simp; omega)
      refine ⟨q, w', ?_, ?_⟩
      · rw [F27_L0, if_pos (by simp [Sl.len]; omega), if_neg (by simp [Sl.len]; omega), bnd e1, Sl.l_some, bnd h3]
        simp only [Option.bind_some]
        rw [ad_nat (by omega)]
        exact h1
      · rw [h2, h4, drop_cons hb]
        have d1 : w.l.drop i = [] := List.drop_eq_nil_of_le (by omega)
        have d2 : (w.l ++ [b.l[i]]).drop (i + 1) = [] := List.drop_eq_nil_of_le (by simp; omega)
        have d3 : (w.l ++ [b.l[i]]).take (i + 1) = w.l ++ [b.l[i]] := List.take_of_length_le (by simp; omega)
        have d4 : w.l.take i = w.l := List.take_of_length_le (by omega)
        rw [d1, d2, d3, d4]
        simp [joinL]

theorem f27 (k : Nat) (x y : Sl CS) : ∃ z, F27 (k + 8) x y = some z ∧ z.l = joinL (own x.l) (own y.l) := by
  obtain ⟨a, h1, h2⟩ := f37 k x
  obtain ⟨b, h3, h4⟩ := f37 k y
  have la : a.l.length ≤ 6 := by rw [h2]; exact own_len _
  have lb : b.l.length ≤ 6 := by rw [h4]; exact own_len _
  obtain ⟨r, w', h7, h8⟩ := f27L (k + 8) b lb b.l.length (k + 8) 0 a (by omega) (by omega) (by omega) (by omega)
  unfold F27
  rw [bnd h1, bnd h3, bnd (by simpa using h7), ← h2, ← h4]
  exact ⟨_, rfl, by rw [h8]; simp⟩

theorem f29L (k : Nat) (b a : Sl CS) (ha : a.l.length ≤ 6) : ∀ (j n i : Nat) (z : Sl CS), i + j = min a.l.length b.l.length → j < n → z.l.length = i →
    ∃ q w', F29_L0 k b a n z i = some (w', q) ∧ w'.l = z.l ++ meetL (a.l.drop i) (b.l.drop i)
  | j, 0, i, z, _, h, _ => by omega
  | 0, n + 1, i, z, hij, _, _ => by
    rw [F29_L0, if_neg (by simp only [Sl.len, imin_nat]; simp; omega)]
    refine ⟨_, _, rfl, ?_⟩
    have : meetL (a.l.drop i) (b.l.drop i) = [] := by
      rcases Nat.le_total a.l.length b.l.length with h | h
      · rw [show a.l.drop i = [] from List.drop_eq_nil_of_le (by omega)]; rfl
      · rw [show b.l.drop i = [] from List.drop_eq_nil_of_le (by omega), meetL_nil]
    rw [this, List.append_nil]
  | j + 1, n + 1, i, z, hij, hn, hz => by
    have ha' : i < a.l.length := by omega
    have hb' : i < b.l.length := by omega
    have e1 : Sl.at? a (i : Int) = some a.l[i] := by rw [Sl.at?_nat]; exact List.getElem?_eq_getElem ha'
    have e2 : Sl.at? b (i : Int) = some b.l[i] := by rw [Sl.at?_nat]; exact List.getElem?_eq_getElem hb'
    obtain ⟨z', h3, h4⟩ := Sl.app?_l (α := CS) (bytes := 24) (x := z) (ys := [mn a.l[i] b.l[i]]) (by simp; omega)
    obtain ⟨q, w', h1, h2⟩ := f29L k b a ha j n (i + 1) z' (by omega) (by omega) (by rw [h4]; simp; omega)
    refine ⟨q, w', ?_, ?_⟩
    · rw [F29_L0, if_pos (by simp only [Sl.len, imin_nat]; simp; omega), bnd e1, bnd e2, bnd (f51 _ _ _)]
      have : (if decide (cmpC a.l[i] b.l[i] ≤ 0) = true then Option.bind (Sl.at? a (i : Int)) fun y273 => Option.bind (Sl.app? 24 z (Sl.l (some [y273]))) fun z276 => some z276
          else Option.bind (Sl.at? b (i : Int)) fun y278 => Option.bind (Sl.app? 24 z (Sl.l (some [y278]))) fun z281 => some z281) = some z' := by
        unfold mn at h3
        by_cases h : ltb b.l[i] a.l[i] = true
        · rw [if_pos h] at h3
          rw [if_neg (by simpa using cmp_gt.2 h), bnd e2, Sl.l_some, bnd h3]
        · rw [if_neg h] at h3
          rw [if_pos (by simpa using cmp_le.2 (by simpa using h)), bnd e1, Sl.l_some, bnd h3]
      rw [bnd this, ad_nat (by omega)]
      exact h1
    · rw [h2, h4, drop_cons ha', drop_cons hb', meetL, List.append_assoc]; rfl

theorem f29 (k : Nat) (x y : Sl CS) : ∃ z, F29 (k + 8) x y = some z ∧ z.l = meetL (own x.l) (own y.l) := by
  obtain ⟨a, h1, h2⟩ := f37 k x
  obtain ⟨b, h3, h4⟩ := f37 k y
  have la : a.l.length ≤ 6 := by rw [h2]; exact own_len _
  obtain ⟨q, w', h7, h8⟩ := f29L (k + 8) b a la (min a.l.length b.l.length) (k + 8) 0 none (by omega) (by omega) rfl
  unfold F29
  rw [bnd h1, bnd h3, bnd (by simpa using h7), ← h2, ← h4]
  exact ⟨_, rfl, by rw [h8]; simp [Sl.l_none]⟩

theorem f31L (k : Nat) (b a : Sl CS) (ha : a.l.length ≤ 6) (hab : a.l.length ≤ b.l.length) : ∀ (j n i : Nat), i + j = a.l.length → j < n → ∃ o, F31_L0 k b a n i = some o ∧ (match o with | .ret r => r = false ∧ leqL (a.l.drop i) (b.l.drop i) = false | .brk _ => leqL (a.l.drop i) (b.l.drop i) = true)
  | j, 0, i, _, h => by omega
  | 0, n + 1, i, hij, _ => by
    rw [F31_L0, if_neg (by simp [Sl.len]; omega)]
    exact ⟨_, rfl, by simp only; rw [show a.l.drop i = [] from List.drop_eq_nil_of_le (by omega)]; rfl⟩
  | j + 1, n + 1, i, hij, hn => by
    have ha' : i < a.l.length := by omega
    have hb' : i < b.l.length := by omega
    have e1 : Sl.at? a (i : Int) = some a.l[i] := by rw [Sl.at?_nat]; exact List.getElem?_eq_getElem ha'
    have e2 : Sl.at? b (i : Int) = some b.l[i] := by rw [Sl.at?_nat]; exact List.getElem?_eq_getElem hb'
    rw [F31_L0, if_pos (by simp [Sl.len]; omega), bnd e1, bnd e2, bnd (f51 _ _ _), drop_cons ha', drop_cons hb']
    simp only [leqL]
    by_cases h : ltb b.l[i] a.l[i] = true
    · rw [if_pos (by simpa using cmp_gt.2 h)]
      exact ⟨_, rfl, rfl, by simp [h]⟩
    · rw [if_neg (by simpa using cmp_le.2 (by simpa using h)), ad_nat (by omega)]
      obtain ⟨o, h1, h2⟩ := f31L k b a ha hab j n (i + 1) (by omega) (by omega)
      refine ⟨o, h1, ?_⟩
      simp only [Bool.not_eq_true] at h
      simp only [h, Bool.not_false, Bool.true_and]
      exact h2

theorem f31 (k : Nat) (x y : Sl CS) : F31 (k + 8) x y = some (leqL (own x.l) (own y.l)) := by
  obtain ⟨a, h1, h2⟩ := f37 k x
  obtain ⟨b, h3, h4⟩ := f37 k y
  have la : a.l.length ≤ 6 := by rw [h2]; exact own_len _
  unfold F31
  rw [bnd h1, bnd h3, ← h2, ← h4]
  by_cases hl : b.l.length < a.l.length
  · rw [if_pos (by simp [Sl.len]; omega), leqL_long hl]
  · obtain ⟨o, h5, h6⟩ := f31L (k + 8) b a la (by omega) a.l.length (k + 8) 0 (by omega) (by omega)
    rw [if_neg (by simp [Sl.len]; omega), bnd (by simpa using h5)]
    cases o with
    | ret r => simp only [List.drop_zero] at h6; rw [h6.1, h6.2]
    | brk v => simp only [List.drop_zero] at h6; rw [h6]

theorem f33 (k : Nat) (x : Sl CS) (c : CS) : F33 (k + 8) x c = some (coversL (own x.l) c) := by
  obtain ⟨a, h1, h2⟩ := f37 k x
  unfold F33
  rw [bnd h1, ← h2]
  exact covers_tail a c (k + 8) F51 (fun p q => f51 _ p q)

theorem f35L (k : Nat) (a : Sl CS) (z : CS) (ha : a.l.length ≤ 6) : ∀ (j n i : Nat) (m : CS), i + j = a.l.length → j < n → ∃ q, F35_L0 k a z n i m = some (q, (a.l.drop i).foldl minF m)
  | j, 0, i, m, _, h => by omega
  | 0, n + 1, i, m, hij, _ => by
    rw [F35_L0, if_neg (by simp [Sl.len]; omega), show a.l.drop i = [] from List.drop_eq_nil_of_le (by omega)]
    exact ⟨_, rfl⟩
  | j + 1, n + 1, i, m, hij, hn => by
    have ha' : i < a.l.length := by omega
    have e1 : Sl.at? a (i : Int) = some a.l[i] := by rw [Sl.at?_nat]; exact List.getElem?_eq_getElem ha'
    obtain ⟨q, h1⟩ := f35L k a z ha j n (i + 1) (minF m a.l[i]) (by omega) (by omega)
    refine ⟨q, ?_⟩
    have : (if decide (cmpC a.l[i] m < 0) = true then Option.bind (Sl.at? a (i : Int)) fun y73 => some y73 else some m) = some (minF m a.l[i]) := by
      unfold minF
      by_cases h : ltb a.l[i] m = true
      · rw [if_pos h, if_pos (by simpa using cmp_lt.2 h), bnd e1]
      · rw [if_neg h, if_neg (by simpa using fun h' => h (cmp_lt.1 h'))]
    rw [F35_L0, if_pos (by simp [Sl.len]; omega), bnd e1, bnd (f51 _ _ _), bnd this, ad_nat (by omega), h1, drop_cons ha', List.foldl_cons]

theorem f35 (k : Nat) (x : Sl CS) : F35 (k + 8) x = some (leastL (own x.l)) := by
  obtain ⟨a, h1, h2⟩ := f37 k x
  have la : a.l.length ≤ 6 := by rw [h2]; exact own_len _
  unfold F35
  rw [bnd h1, ← h2]
  cases hl : a.l with
  | nil => rw [if_pos (by simp [Sl.len, hl])]; rfl
  | cons c r =>
    have e0 : Sl.at? a 0 = some c := by have := Sl.at?_nat a 0; simpa [hl] using this
    obtain ⟨q, h3⟩ := f35L (k + 8) a ⟨0, 0, 0⟩ la (a.l.length - 1) (k + 8) 1 c (by rw [hl]; simp; omega) (by omega)
    have h3' : F35_L0 (k + 8) a ⟨0, 0, 0⟩ (k + 8) 1 c = some (q, (a.l.drop 1).foldl minF c) := h3
    rw [if_neg (by simp [Sl.len, hl]; omega), bnd e0, bnd h3', hl]
    rfl

theorem f19L (k : Nat) (a b : Sl CS) (ha : a.l.length ≤ 20) (hab : a.l.length = b.l.length) : ∀ (j n i : Nat), i + j = a.l.length → j < n → ∃ o, F19_L0 k a b n i = some o ∧ (match o with | .ret r => r = false ∧ a.l.drop i ≠ b.l.drop i | .brk _ => a.l.drop i = b.l.drop i)
  | j, 0, i, _, h => by omega
  | 0, n + 1, i, hij, _ => by
    rw [F19_L0, if_neg (by simp [Sl.len]; omega)]
    exact ⟨_, rfl, by simp only; rw [show a.l.drop i = [] from List.drop_eq_nil_of_le (by omega), show b.l.drop i = [] from List.drop_eq_nil_of_le (by omega)]⟩
  | j + 1, n + 1, i, hij, hn => by
    have ha' : i < a.l.length := by omega
    have hb' : i < b.l.length := by omega
    have e1 : Sl.at? a (i : Int) = some a.l[i] := by rw [Sl.at?_nat]; exact List.getElem?_eq_getElem ha'
    have e2 : Sl.at? b (i : Int) = some b.l[i] := by rw [Sl.at?_nat]; exact List.getElem?_eq_getElem hb'
    rw [F19_L0, if_pos (by simp [Sl.len]; omega), bnd e1, bnd e2, eqb, drop_cons ha', drop_cons hb']
    by_cases h : a.l[i] = b.l[i]
    · rw [if_neg (by simp [h]), ad_nat (by omega)]
      obtain ⟨o, h1, h2⟩ := f19L k a b ha hab j n (i + 1) (by omega) (by omega)
      refine ⟨o, h1, ?_⟩
      cases o with
      | ret r => exact ⟨h2.1, fun he => h2.2 (List.cons.inj he).2⟩
      | brk v => simp only at h2 ⊢; rw [h, h2]
    · rw [if_pos (by simp [h])]
      exact ⟨_, rfl, rfl, fun he => h (List.cons.inj he).1⟩

theorem f19 (k : Nat) (a b : Sl CS) (ha : a.l.length ≤ 20) : F19 (k + 22) a b = some (decide (a.l = b.l)) := by
  unfold F19
  by_cases hl : a.l.length = b.l.length
  · obtain ⟨o, h5, h6⟩ := f19L (k + 22) a b ha hl a.l.length (k + 22) 0 (by omega) (by omega)
    have h5' : F19_L0 (k + 22) a b (k + 22) 0 = some o := h5
    rw [if_neg (by simp [Sl.len, hl]), bnd h5']
    cases o with
    | ret r => simp only [List.drop_zero] at h6; rw [h6.1]; simp [h6.2]
    | brk v => simp only [List.drop_zero] at h6; simp [h6]
  · rw [if_pos (by simp only [Sl.len, bne_iff_ne, ne_eq]; omega)]
    have : a.l ≠ b.l := fun h => hl (by rw [h])
    simp [this]

theorem f21L (k : Nat) (n' : Int) (m : Nat) (hm : m ≤ 6) (h : (imin n' 6 = (m : Int)) ∨ (m = 0 ∧ imin n' 6 < 0)) : ∀ (j n i : Nat) (z : Sl CS), i + j = m → j < n → z.l.length = i → ∃ q w, F21_L0 k n' n z i = some (w, q) ∧ w.l = z.l ++ newL i j
  | j, 0, i, z, _, h, _ => by omega
  | 0, n + 1, i, z, hij, _, _ => by
    rw [F21_L0, if_neg (by simp; omega)]
    exact ⟨_, _, rfl, by simp [newL]⟩
  | j + 1, n + 1, i, z, hij, hn, hz => by
    obtain ⟨z', h3, h4⟩ := Sl.app?_l (α := CS) (bytes := 24) (x := z) (ys := [⟨0, 0, (i : Int)⟩]) (by simp; omega)
    obtain ⟨q, w', h1, h2⟩ := f21L k n' m hm h j n (i + 1) z' (by omega) (by omega) (by rw [h4]; simp; omega)
    refine ⟨q, w', ?_, ?_⟩
    · rw [F21_L0, if_pos (by simp; omega), Sl.l_some, bnd h3, ad_nat (by omega)]
      exact h1
    · rw [h2, h4, newL, List.append_assoc]; rfl

theorem f21 (k : Nat) (n : Int) (m : Nat) (hm : m ≤ 6) (h : (imin n 6 = (m : Int)) ∨ (m = 0 ∧ imin n 6 < 0)) : ∃ z, F21 (k + 8) n = some z ∧ z.l = newL 0 m := by
  obtain ⟨q, w, h1, h2⟩ := f21L (k + 8) n m hm h m (k + 8) 0 none (by omega) (by omega) rfl
  unfold F21
  rw [bnd (by simpa using h1)]
  exact ⟨_, rfl, by rw [h2]; simp [Sl.l_none]⟩

theorem F6_true (a b : Sl CS) (c : CS) (n : Int) : F6 60 a b c n = some true := by
  unfold F6
  rw [bnd known11, if_neg (by simp)]
  by_cases hg : ((decide ((Sl.len a) > 10)) || (decide ((Sl.len b) > 10))) = true
  · rw [if_pos hg]
  · rw [if_neg hg]
    simp only [Sl.len, Bool.or_eq_true, decide_eq_true_eq, not_or] at hg
    obtain ⟨m, m1, m2, m3⟩ := clamp n
    obtain ⟨z1, p1, q1⟩ := f20 52 n m m1 m2
    obtain ⟨z2, p2, q2⟩ := f21 52 n m m1 m3
    obtain ⟨r1, p3, q3⟩ := f24 52 a c
    obtain ⟨r2, p4, q4⟩ := f25 52 a c
    obtain ⟨j1, p5, q5⟩ := f26 52 a b
    obtain ⟨j2, p6, q6⟩ := f27 52 a b
    obtain ⟨t1, p7, q7⟩ := f28 52 a b
    obtain ⟨t2, p8, q8⟩ := f29 52 a b
    obtain ⟨o1, p9, q9⟩ := f37 52 a
    obtain ⟨o2, p10, q10⟩ := f37 52 b
    have jl : ∀ x y : List CS, (joinL x y).length ≤ x.length + y.length := by
      intro x
      induction x with
      | nil => intro y; simp [joinL]
      | cons u x ih => intro y; cases y with
        | nil => simp [joinL]
        | cons v y => have := ih y; simp [joinL]; omega
    have tl : ∀ x y : List CS, (meetL x y).length ≤ x.length := by
      intro x
      induction x with
      | nil => intro y; simp [meetL]
      | cons u x ih => intro y; cases y with
        | nil => simp [meetL]
        | cons v y => have := ih y; simp [meetL]; omega
    have la := own_len a.l
    have lb := own_len b.l
    have rl : (raiseL (own a.l) c).length ≤ 6 := by unfold raiseL; split; (rw [List.length_set]; exact la); exact la
    have e1 := f19 38 z1 z2 (by rw [q1, newL_len]; omega)
    have e2 := f19 38 r1 r2 (by rw [q3]; omega)
    have e3 := f19 38 j1 j2 (by rw [q5]; have := jl (own a.l) (own b.l); omega)
    have e4 := f19 38 t1 t2 (by rw [q7]; have := tl (own a.l) (own b.l); omega)
    have e5 := f19 38 o1 o2 (by rw [q9]; omega)
    rw [q1, q2] at e1
    rw [q3, q4] at e2
    rw [q5, q6] at e3
    rw [q7, q8] at e4
    rw [q9, q10] at e5
    simp only [decide_true] at e1 e2 e3 e4
    rw [bnd p1, bnd p2, bnd e1, if_pos rfl, bnd (f22 52 a), bnd (f23 52 a), if_pos (by simp), bnd p3, bnd p4, bnd e2, if_pos rfl, bnd p5, bnd p6, bnd e3, if_pos rfl, bnd p7, bnd p8, bnd e4, if_pos rfl,
      bnd (f30 52 a b), bnd (f31 52 a b), if_pos (by simp), bnd (f32 52 a c), bnd (f33 52 a c), if_pos (by simp), bnd (f34 52 a), bnd (f35 52 a), if_pos (by simp), bnd (f36 52 a b), bnd p9, bnd p10, bnd e5]
    simp
end Go.Proofs.Ythcchjhieolflaa.M
