/- Vectors: what each function computes, on plain lists. -/
import Derived.Test.YthcchjhieolflaaDVc
namespace Go.Proofs.Ythcchjhieolflaa.M
open Go Go.Pam
set_option maxRecDepth 20000
set_option linter.unusedVariables false
set_option linter.unusedSimpArgs false

abbrev CS := Api_CSN

def ltb (a b : CS) : Bool := (decide (a.Time < b.Time)) || ((a.Time == b.Time) && ((decide (a.Seq < b.Seq)) || ((a.Seq == b.Seq) && (decide (a.Rep < b.Rep)))))
def cmpC (a b : CS) : Int := if ltb a b = true then -1 else if ltb b a = true then 1 else 0
def okC (a : CS) : Bool := (((((decide (a.Time ≥ 0)) && (decide (a.Time ≤ 1099511627776))) && (decide (a.Seq ≥ 0))) && (decide (a.Seq ≤ 65535))) && (decide (a.Rep ≥ 0))) && (decide (a.Rep < 6))
def mx (a b : CS) : CS := if ltb a b = true then b else a
def mn (a b : CS) : CS := if ltb b a = true then b else a

theorem ltb_iff {a b : CS} : ltb a b = true ↔ (a.Time < b.Time ∨ (a.Time = b.Time ∧ (a.Seq < b.Seq ∨ (a.Seq = b.Seq ∧ a.Rep < b.Rep)))) := by
  simp [ltb]
theorem ltb_not {a b : CS} : ltb a b = false ↔ ¬ (a.Time < b.Time ∨ (a.Time = b.Time ∧ (a.Seq < b.Seq ∨ (a.Seq = b.Seq ∧ a.Rep < b.Rep)))) := by
  rw [← ltb_iff]; simp
theorem ltb_tri {a b : CS} (h1 : ltb a b = false) (h2 : ltb b a = false) : a = b := by
  rw [ltb_not] at h1 h2
  cases a; cases b
  simp only at h1 h2
  congr <;> omega
theorem ltb_asym {a b : CS} (h : ltb a b = true) : ltb b a = false := by
  rw [ltb_iff] at h; rw [ltb_not]; omega
theorem ltb_irr (a : CS) : ltb a a = false := by rw [ltb_not]; omega
theorem ltb_trans {a b c : CS} (h1 : ltb a b = true) (h2 : ltb b c = true) : ltb a c = true := by
  rw [ltb_iff] at h1 h2 ⊢; omega

theorem cmp_lt {a b : CS} : (cmpC a b < 0) ↔ ltb a b = true := by
  unfold cmpC; split
  · rename_i h; simp [h]
  · rename_i h; split <;> simp_all
theorem cmp_gt {a b : CS} : (cmpC a b > 0) ↔ ltb b a = true := by
  unfold cmpC; split
  · rename_i h; have := ltb_asym h; simp [this]
  · rename_i h; split <;> simp_all
theorem cmp_le {a b : CS} : (cmpC a b ≤ 0) ↔ ltb b a = false := by
  rw [← Bool.not_eq_true, ← cmp_gt]; omega
theorem cmp_ge {a b : CS} : (cmpC a b ≥ 0) ↔ ltb a b = false := by
  rw [← Bool.not_eq_true, ← cmp_lt]; omega

theorem mx_comm (a b : CS) : mx a b = mx b a := by
  unfold mx
  cases h1 : ltb a b <;> cases h2 : ltb b a <;> simp only [Bool.false_eq_true, if_true, if_false]
  · exact ltb_tri h1 h2
  · have := ltb_asym h1; rw [h2] at this; cases this

/-! Comparisons -/
def cmpI (x y : Int) : Int := if x < y then -1 else if x > y then 1 else 0

theorem f59 (k : Nat) (x y : Int) : F59 k x y = some (cmpI x y) := by
  simp [F59, F61, cmpI]
  split <;> try rfl
  split <;> rfl
theorem f60 (k : Nat) (x y : Int) : F60 k x y = some (cmpI x y) := by
  simp [F60, F62, cmpI]
  split <;> try rfl
  split <;> rfl

theorem f58 (k : Nat) (x y z : Int) : F58 (k + 4) (some [x, y, z]) = some (if x ≠ 0 then x else if y ≠ 0 then y else z) := by
  have e0 : Sl.at? (some [x, y, z]) 0 = some x := rfl
  have e1 : Sl.at? (some [x, y, z]) 1 = some y := rfl
  have e2 : Sl.at? (some [x, y, z]) 2 = some z := rfl
  have el : Sl.len (some [x, y, z]) = 3 := rfl
  have a1 : ad .i64 0 1 = 1 := rfl
  have a2 : ad .i64 1 1 = 2 := rfl
  have a3 : ad .i64 2 1 = 3 := rfl
  unfold F58
  rw [el]
  rw [F58_L0, if_pos (by decide), bnd e0]
  by_cases hx : x = 0
  · subst hx
    rw [if_neg (by decide), a1, F58_L0, if_pos (by decide), bnd e1]
    by_cases hy : y = 0
    · subst hy
      rw [if_neg (by decide), a2, F58_L0, if_pos (by decide), bnd e2]
      by_cases hz : z = 0
      · subst hz
        rw [if_neg (by decide), a3, F58_L0, if_neg (by decide)]
        rfl
      · rw [if_pos (by simpa using hz)]; simp
    · rw [if_pos (by simpa using hy)]; simp [hy]
  · rw [if_pos (by simpa using hx)]; simp [hx]

theorem f50 (k : Nat) (a b : CS) : F50 (k + 4) a b = some (cmpC a b) := by
  unfold F50
  rw [bnd (f59 _ _ _), bnd (f60 _ _ _), bnd (f60 _ _ _), bnd (f58 _ _ _ _)]
  congr 1
  unfold cmpI cmpC
  simp only [ltb_iff]
  split <;> split <;> (try split) <;> (try split) <;> (try split) <;> (try split) <;> (try split) <;> (try split) <;> first | rfl | omega

theorem f48 (k : Nat) (a b : CS) : F48 (k + 4) a b = some (mx a b) := by
  unfold F48 mx
  rw [bnd (f50 _ _ _)]
  by_cases h : ltb a b = true
  · rw [if_pos h, if_pos (by simpa using cmp_lt.2 h)]
  · rw [if_neg h, if_neg (by simpa using fun h' => h (cmp_lt.1 h'))]

/-! What a vector is -/
def isVf : Nat → List CS → Bool
  | _, [] => true
  | i, c :: l => decide (i < 6) && (c.Rep == (i : Int)) && okC c && isVf (i + 1) l

def own (l : List CS) : List CS := if isVf 0 l = true then l else []

theorem isVf_len : ∀ (i : Nat) (l : List CS), isVf i l = true → i ≤ 6 → i + l.length ≤ 6
  | i, [], _, hi => by simpa using hi
  | i, c :: l, h, hi => by
    simp only [isVf, Bool.and_eq_true, decide_eq_true_eq] at h
    have := isVf_len (i + 1) l h.2 (by omega)
    simp only [List.length_cons]; omega

theorem own_len (l : List CS) : (own l).length ≤ 6 := by
  unfold own; split
  · rename_i h; have := isVf_len 0 l h (by omega); omega
  · simp

theorem isVf_get : ∀ (i : Nat) (l : List CS), isVf i l = true → ∀ (j : Nat) (c : CS), l[j]? = some c → c.Rep = ((i + j : Nat) : Int) ∧ okC c = true
  | i, c :: l, h, 0, d, hd => by
    simp at hd; subst hd
    simp only [isVf, Bool.and_eq_true, beq_iff_eq] at h
    exact ⟨by simpa using h.1.1.2, h.1.2⟩
  | i, c :: l, h, j + 1, d, hd => by
    simp only [isVf, Bool.and_eq_true] at h
    have := isVf_get (i + 1) l h.2 j d (by simpa using hd)
    rw [show i + (j + 1) = i + 1 + j by omega]; exact this

theorem isVf_own (l : List CS) : isVf 0 (own l) = true := by
  unfold own; split
  · assumption
  · rfl

theorem own_of {l : List CS} (h : isVf 0 l = true) : own l = l := if_pos h
theorem own_own (l : List CS) : own (own l) = own l := own_of (isVf_own l)

theorem f44 (k : Nat) (c : CS) : F44 k c = some (okC c) := rfl
theorem drop_cons {α : Type} {l : List α} {i : Nat} (h : i < l.length) : l.drop i = l[i] :: l.drop (i + 1) := List.drop_eq_getElem_cons h

theorem f22L (k : Nat) (x : Sl CS) : ∀ (j n i : Nat), i + j = 7 → j < n → i ≤ x.l.length → F22_L0 k x (Sl.len x) n i = some (if isVf i (x.l.drop i) = true then .brk (x.l.length : Int) else .ret false)
  | 0, 0, i, _, h, _ => by omega
  | j, 0, i, _, h, _ => by omega
  | j, n + 1, i, hij, hn, hi => by
    rw [F22_L0]
    by_cases hl : i < x.l.length
    · rw [if_pos (by simp [Sl.len]; omega)]
      have e1 : Sl.at? x (i : Int) = some x.l[i] := by rw [Sl.at?_nat]; exact List.getElem?_eq_getElem hl
      rw [bnd e1, drop_cons hl]
      simp only [isVf]
      by_cases h6 : i < 6
      · by_cases hr : x.l[i].Rep = (i : Int)
        · have c1 : ((decide ((i : Int) ≥ 6)) || (x.l[i].Rep != (i : Int))) = false := by simp [hr]; omega
          rw [if_neg (by rw [c1]; simp), bnd (f44 _ _)]
          simp only [Option.bind_some]
          by_cases ho : okC x.l[i] = true
          · rw [if_neg (by simp [ho])]
            obtain ⟨j', rfl⟩ : ∃ j', j = j' + 1 := ⟨j - 1, by omega⟩
            rw [ad_nat (by omega), f22L k x j' n (i + 1) (by omega) (by omega) (by omega)]
            simp [hr, h6, ho]
          · rw [if_pos (by simpa using ho)]
            simp [hr, h6, ho]
        · have c1 : ((decide ((i : Int) ≥ 6)) || (x.l[i].Rep != (i : Int))) = true := by simp [hr]
          rw [if_pos c1]
          simp [hr]
      · have c1 : ((decide ((i : Int) ≥ 6)) || (x.l[i].Rep != (i : Int))) = true := by simp; left; omega
        rw [if_pos c1]
        simp [h6]
    · have : i = x.l.length := by omega
      subst this
      rw [if_neg (by simp [Sl.len])]
      simp [isVf]

theorem f22 (k : Nat) (x : Sl CS) : F22 (k + 8) x = some (isVf 0 x.l) := by
  unfold F22
  have := f22L (k + 8) x 7 (k + 8) 0 (by omega) (by omega) (by omega)
  rw [List.drop_zero] at this
  rw [bnd (by simpa using this)]
  cases h : isVf 0 x.l <;> rfl

theorem f47 (k : Nat) (x : Sl CS) : ∃ y, F47 (k + 8) x = some y ∧ y.l = own x.l := by
  unfold F47 own
  rw [bnd (f22 _ _)]
  cases h : isVf 0 x.l
  · exact ⟨none, rfl, rfl⟩
  · exact ⟨x, rfl, rfl⟩

theorem f46 (k : Nat) (x : Sl CS) (hl : x.l.length ≤ 6) : ∃ y, F46 k x = some y ∧ y.l = x.l := by
  unfold F46
  cases x with
  | none => exact ⟨none, rfl, rfl⟩
  | some l =>
    obtain ⟨z, h1, h2⟩ := Sl.app?_l (α := CS) (bytes := 24) (x := some []) (ys := l) (by simp [Sl.l_some] at hl ⊢; omega)
    rw [if_neg (by simp [Sl.isNil]), Sl.l_some, bnd h1]
    exact ⟨z, rfl, by rw [h2, Sl.l_some, List.nil_append]⟩

/-! Raised -/
def raiseL (l : List CS) (c : CS) : List CS := if okC c = true ∧ c.Rep < l.length then l.set c.Rep.toNat (mx (l.getD c.Rep.toNat c) c) else l

theorem at_get {x : Sl CS} {i : Int} (h0 : 0 ≤ i) (h1 : i < x.l.length) (d : CS) : Sl.at? x i = some (x.l.getD i.toNat d) := by
  obtain ⟨n, rfl⟩ := Int.eq_ofNat_of_zero_le h0
  rw [Sl.at?_nat, Int.toNat_natCast, List.getD_eq_getElem?_getD, List.getElem?_eq_getElem (by omega)]
  rfl

theorem okC_rep {c : CS} (h : okC c = true) : 0 ≤ c.Rep ∧ c.Rep < 6 := by
  simp only [okC, Bool.and_eq_true, decide_eq_true_eq] at h; omega

theorem raise_tail (y : Sl CS) (c : CS) (k : Nat) (g : Nat → CS → CS → Option CS) (hg : ∀ a b, g k a b = some (mx a b)) :
    ∃ z, (Option.bind (if (okC c && (decide (c.Rep < (Sl.len y)))) = true then
      Option.bind (Sl.at? y c.Rep) fun y23 => Option.bind (g k y23 c) fun y25 => Option.bind (Sl.at? y c.Rep) fun y26 => some (Sl.set y c.Rep y25) else some y) fun y21 => some y21) = some z ∧ z.l = raiseL y.l c := by
  unfold raiseL
  by_cases h : okC c = true ∧ c.Rep < y.l.length
  · have h' : (okC c && (decide (c.Rep < (Sl.len y)))) = true := by simp [Sl.len, h.1, h.2]
    have hr := okC_rep h.1
    rw [if_pos h, if_pos h', bnd (at_get hr.1 h.2 c), bnd (hg _ _), bnd (at_get hr.1 h.2 c)]
    exact ⟨_, rfl, Sl.set_l _ _ _⟩
  · have h' : ¬ (okC c && (decide (c.Rep < (Sl.len y)))) = true := by
      intro h'; rw [Bool.and_eq_true, decide_eq_true_eq] at h'; exact h h'
    rw [if_neg h, if_neg h']
    exact ⟨_, rfl, rfl⟩

theorem f24 (k : Nat) (x : Sl CS) (c : CS) : ∃ z, F24 (k + 8) x c = some z ∧ z.l = raiseL (own x.l) c := by
  obtain ⟨y, h1, h2⟩ := f47 k x
  obtain ⟨z, h3, h4⟩ := f46 (k + 8) y (by rw [h2]; exact own_len _)
  unfold F24
  rw [bnd h1, bnd h3, bnd (f44 _ _)]
  rw [← h2, ← h4]
  exact raise_tail z c (k + 8) F48 (fun a b => f48 (k + 4) a b)

/-! Joined -/
def joinL : List CS → List CS → List CS
  | [], b => b
  | a, [] => a
  | x :: a, y :: b => mx x y :: joinL a b

theorem joinL_nil (a : List CS) : joinL a [] = a := by cases a <;> rfl
theorem joinL_comm : ∀ a b : List CS, joinL a b = joinL b a
  | [], b => by rw [joinL_nil]; cases b <;> rfl
  | x :: a, [] => rfl
  | x :: a, y :: b => by simp only [joinL]; rw [mx_comm, joinL_comm a b]

theorem set_take {α : Type} {l : List α} {i : Nat} (h : i < l.length) (y : α) : (l.set i y).take (i + 1) = l.take i ++ [y] := by
  rw [List.take_set, List.take_add_one, List.getElem?_eq_getElem h]
  simp only [Option.toList_some]
  rw [List.set_append_right _ _ (by rw [List.length_take]; omega), List.length_take]
  have : i - min i l.length = 0 := by omega
  rw [this]; rfl
theorem set_drop {α : Type} {l : List α} {i : Nat} (y : α) : (l.set i y).drop (i + 1) = l.drop (i + 1) := by
  rw [List.drop_set, if_pos (by omega)]

theorem f26L (k : Nat) (b : Sl CS) : ∀ (j n i : Nat) (w : Sl CS), i + j = b.l.length → j < n → b.l.length ≤ w.l.length → b.l.length ≤ 6 → ∃ q w', F26_L0 (k + 4) b (Sl.len b) n i w = some (q, w') ∧ w'.l = w.l.take i ++ joinL (w.l.drop i) (b.l.drop i)
  | j, 0, i, w, _, h, _, _ => by omega
  | 0, n + 1, i, w, hij, _, _, _ => by
    rw [F26_L0, if_neg (by simp [Sl.len]; omega)]
    refine ⟨_, _, rfl, ?_⟩
    rw [show b.l.drop i = [] from List.drop_eq_nil_of_le (by omega), joinL_nil, List.take_append_drop]
  | j + 1, n + 1, i, w, hij, hn, hl, h6 => by
    have hb : i < b.l.length := by omega
    have hw : i < w.l.length := by omega
    have e1 : Sl.at? b (i : Int) = some b.l[i] := by rw [Sl.at?_nat]; exact List.getElem?_eq_getElem hb
    have e2 : Sl.at? w (i : Int) = some w.l[i] := by rw [Sl.at?_nat]; exact List.getElem?_eq_getElem hw
    obtain ⟨q, w', h1, h2⟩ := f26L k b j n (i + 1) (Sl.set w (i : Int) (mx w.l[i] b.l[i])) (by omega) (by omega) (by rw [Sl.set_l, List.length_set]; exact hl) h6
    refine ⟨q, w', ?_, ?_⟩
    · rw [F26_L0, if_pos (by simp [Sl.len]; omega), bnd e1, bnd e2, bnd (f48 _ _ _), bnd e2, ad_nat (by omega)]
      exact h1
    · rw [h2, Sl.set_l, Int.toNat_natCast, set_take hw, set_drop, drop_cons hw, drop_cons hb, joinL, List.append_assoc]
      rfl

theorem f26 (k : Nat) (x y : Sl CS) : ∃ z, F26 (k + 8) x y = some z ∧ z.l = joinL (own x.l) (own y.l) := by
  obtain ⟨a, h1, h2⟩ := f47 k x
  obtain ⟨b, h3, h4⟩ := f47 k y
  have la : a.l.length ≤ 6 := by rw [h2]; exact own_len _
  have lb : b.l.length ≤ 6 := by rw [h4]; exact own_len _
  have key : ∀ (p q : Sl CS), q.l.length ≤ p.l.length → p.l.length ≤ 6 → ∃ z, (Option.bind (F46 (k + 8) p) fun y7 => Option.bind (F26_L0 (k + 8) q (Sl.len q) (k + 8) 0 y7) fun y78 => some y78.2) = some z ∧ z.l = joinL p.l q.l := by
    intro p q hl hp
    obtain ⟨c, h5, h6⟩ := f46 (k + 8) p hp
    obtain ⟨r, w', h7, h8⟩ := f26L (k + 4) q q.l.length (k + 8) 0 c (by omega) (by omega) (by rw [h6]; exact hl) (by omega)
    rw [bnd h5, bnd (by simpa using h7)]
    exact ⟨_, rfl, by rw [h8]; simp [h6]⟩
  unfold F26
  rw [bnd h1, bnd h3, ← h2, ← h4]
  by_cases hlt : a.l.length < b.l.length
  · rw [if_pos (by simp [Sl.len]; omega)]
    simp only [Option.bind_some]
    rw [joinL_comm]
    exact key b a (by omega) lb
  · rw [if_neg (by simp [Sl.len]; omega)]
    simp only [Option.bind_some]
    exact key a b (by omega) la

/-! Met -/
def meetL : List CS → List CS → List CS
  | x :: a, y :: b => mn x y :: meetL a b
  | _, _ => []

theorem meetL_nil (a : List CS) : meetL a [] = [] := by cases a <;> rfl

theorem imin_nat (a b : Nat) : imin (a : Int) (b : Int) = ((min a b : Nat) : Int) := by
  unfold imin; split <;> omega

theorem f28L (k : Nat) (a b : Sl CS) (ha : a.l.length ≤ 6) : ∀ (j n i : Nat) (z : Sl CS), i + j = min a.l.length b.l.length → j < n → z.l.length = i →
    ∃ q w', F28_L0 (k + 4) a b (imin (Sl.len a) (Sl.len b)) n z i = some (w', q) ∧ w'.l = z.l ++ meetL (a.l.drop i) (b.l.drop i)
  | j, 0, i, z, _, h, _ => by omega
  | 0, n + 1, i, z, hij, _, _ => by
    rw [F28_L0, if_neg (by simp only [Sl.len, imin_nat]; simp; omega)]
    refine ⟨_, _, rfl, ?_⟩
    have : meetL (a.l.drop i) (b.l.drop i) = [] := by
      rcases Nat.le_total a.l.length b.l.length with h | h
      · rw [show a.l.drop i = [] from List.drop_eq_nil_of_le (by omega)]; rfl
      · rw [show b.l.drop i = [] from List.drop_eq_nil_of_le (by omega), meetL_nil]
    rw [this, List.append_nil]
  | j + 1, n + 1, i, z, hij, hn, hz => by
    have ha' : i < a.l.length := by omega
    have hb' : i < b.l.length := by omega
    have e1 : Sl.at? a (i : Int) = some a.l[i] := by rw [Sl.at?_nat]; exact List.getElem?_eq_getElem ha'
    have e2 : Sl.at? b (i : Int) = some b.l[i] := by rw [Sl.at?_nat]; exact List.getElem?_eq_getElem hb'
    obtain ⟨z', h3, h4⟩ := Sl.app?_l (α := CS) (bytes := 24) (x := z) (ys := [mn a.l[i] b.l[i]]) (by simp; omega)
    obtain ⟨q, w', h1, h2⟩ := f28L k a b ha j n (i + 1) z' (by omega) (by omega) (by rw [h4]; simp; omega)
    refine ⟨q, w', ?_, ?_⟩
    · rw [F28_L0, if_pos (by simp only [Sl.len, imin_nat]; simp; omega), bnd e1, bnd e2, bnd (f50 _ _ _)]
      have : (if decide (cmpC b.l[i] a.l[i] < 0) = true then Option.bind (Sl.at? b (i : Int)) fun y121 => some y121 else some a.l[i]) = some (mn a.l[i] b.l[i]) := by
        unfold mn
        by_cases h : ltb b.l[i] a.l[i] = true
        · rw [if_pos h, if_pos (by simpa using cmp_lt.2 h), bnd e2]
        · rw [if_neg h, if_neg (by simpa using fun h' => h (cmp_lt.1 h'))]
      rw [bnd this, Sl.l_some, bnd h3, ad_nat (by omega)]
      exact h1
    · rw [h2, h4, drop_cons ha', drop_cons hb', meetL, List.append_assoc]; rfl

theorem f28 (k : Nat) (x y : Sl CS) : ∃ z, F28 (k + 8) x y = some z ∧ z.l = meetL (own x.l) (own y.l) := by
  obtain ⟨a, h1, h2⟩ := f47 k x
  obtain ⟨b, h3, h4⟩ := f47 k y
  have la : a.l.length ≤ 6 := by rw [h2]; exact own_len _
  obtain ⟨q, w', h7, h8⟩ := f28L (k + 4) a b la (min a.l.length b.l.length) (k + 8) 0 none (by omega) (by omega) rfl
  unfold F28
  rw [bnd h1, bnd h3, bnd (by simpa using h7), ← h2, ← h4]
  exact ⟨_, rfl, by rw [h8]; simp [Sl.l_none]⟩

/-! Nowhere above -/
def leqL : List CS → List CS → Bool
  | [], _ => true
  | _ :: _, [] => false
  | x :: a, y :: b => !ltb y x && leqL a b

theorem leqL_long : ∀ {a b : List CS}, b.length < a.length → leqL a b = false
  | x :: a, [], _ => rfl
  | x :: a, y :: b, h => by
    simp only [List.length_cons] at h
    simp [leqL, leqL_long (show b.length < a.length by omega)]

theorem f30L (k : Nat) (b a : Sl CS) (ha : a.l.length ≤ 6) : ∀ (j n i : Nat), i + j = a.l.length → j < n → ∃ o, F30_L0 (k + 4) b a (Sl.len a) n i = some o ∧ (match o with | .ret r => r = false ∧ leqL (a.l.drop i) (b.l.drop i) = false | .brk _ => leqL (a.l.drop i) (b.l.drop i) = true)
  | j, 0, i, _, h => by omega
  | 0, n + 1, i, hij, _ => by
    rw [F30_L0, if_neg (by simp [Sl.len]; omega)]
    exact ⟨_, rfl, by simp only; rw [show a.l.drop i = [] from List.drop_eq_nil_of_le (by omega)]; rfl⟩
  | j + 1, n + 1, i, hij, hn => by
    have ha' : i < a.l.length := by omega
    have e1 : Sl.at? a (i : Int) = some a.l[i] := by rw [Sl.at?_nat]; exact List.getElem?_eq_getElem ha'
    rw [F30_L0, if_pos (by simp [Sl.len]; omega), bnd e1, drop_cons ha']
    by_cases hb' : i < b.l.length
    · have e2 : Sl.at? b (i : Int) = some b.l[i] := by rw [Sl.at?_nat]; exact List.getElem?_eq_getElem hb'
      rw [if_neg (by simp [Sl.len]; omega), bnd e2, bnd (f50 _ _ _), drop_cons hb']
      simp only [Option.bind_some, leqL]
      by_cases h : ltb b.l[i] a.l[i] = true
      · rw [if_pos (by simpa using cmp_gt.2 h)]
        exact ⟨_, rfl, rfl, by simp [h]⟩
      · rw [if_neg (by simpa using cmp_le.2 (by simpa using h)), ad_nat (by omega)]
        obtain ⟨o, h1, h2⟩ := f30L k b a ha j n (i + 1) (by omega) (by omega)
        refine ⟨o, h1, ?_⟩
        simp only [Bool.not_eq_true] at h
        simp only [h, Bool.not_false, Bool.true_and]
        exact h2
    · rw [if_pos (by simp [Sl.len]; omega)]
      simp only [Option.bind_some, if_true]
      exact ⟨_, rfl, rfl, by rw [show b.l.drop i = [] from List.drop_eq_nil_of_le (by omega)]; rfl⟩

theorem f30 (k : Nat) (x y : Sl CS) : F30 (k + 8) x y = some (leqL (own x.l) (own y.l)) := by
  obtain ⟨a, h1, h2⟩ := f47 k x
  obtain ⟨b, h3, h4⟩ := f47 k y
  have la : a.l.length ≤ 6 := by rw [h2]; exact own_len _
  obtain ⟨o, h5, h6⟩ := f30L (k + 4) b a la a.l.length (k + 8) 0 (by omega) (by omega)
  unfold F30
  rw [bnd h1, bnd h3, bnd (by simpa using h5), ← h2, ← h4]
  cases o with
  | ret r => simp only [List.drop_zero] at h6; rw [h6.1, h6.2]
  | brk v => simp only [List.drop_zero] at h6; rw [h6]

/-! Covered -/
def coversL (l : List CS) (c : CS) : Bool := decide (c.Rep ≥ 0) && decide (c.Rep < l.length) && !ltb (l.getD c.Rep.toNat c) c

theorem covers_tail (y : Sl CS) (c : CS) (k : Nat) (g : Nat → CS → CS → Option Int) (hg : ∀ a b, g k a b = some (cmpC a b)) :
    (Option.bind (if ((decide (c.Rep ≥ 0)) && (decide (c.Rep < (Sl.len y)))) = true then Option.bind (Sl.at? y c.Rep) fun y8 => Option.bind (g k c y8) fun y9 => some (decide (y9 ≤ 0)) else some false) fun y7 => some y7) = some (coversL y.l c) := by
  unfold coversL
  by_cases h : 0 ≤ c.Rep ∧ c.Rep < y.l.length
  · rw [if_pos (by simp [Sl.len, h.1, h.2]), bnd (at_get h.1 h.2 c), bnd (hg _ _)]
    simp only [Option.bind_some, h.1, h.2, ge_iff_le, decide_true, Bool.true_and]
    congr 1
    cases hl : ltb (y.l.getD c.Rep.toNat c) c with
    | true => have := cmp_gt.2 hl; exact decide_eq_false (by omega)
    | false => have := cmp_le.2 hl; exact decide_eq_true (by omega)
  · rw [if_neg (fun h' => by rw [Bool.and_eq_true, decide_eq_true_eq, decide_eq_true_eq] at h'; exact h h')]
    simp only [Option.bind_some]
    congr 1
    have : (decide (c.Rep ≥ 0) && decide (c.Rep < (y.l.length : Int))) = false := by
      rw [Bool.eq_false_iff]; simp only [ne_eq, Bool.and_eq_true, decide_eq_true_eq, ge_iff_le]; exact h
    rw [this]; rfl

theorem f32 (k : Nat) (x : Sl CS) (c : CS) : F32 (k + 8) x c = some (coversL (own x.l) c) := by
  obtain ⟨a, h1, h2⟩ := f47 k x
  unfold F32
  rw [bnd h1, ← h2]
  exact covers_tail a c (k + 8) F50 (fun p q => f50 (k + 4) p q)

/-! The least -/
def minF (m c : CS) : CS := if ltb c m = true then c else m
def leastL : List CS → CS
  | [] => ⟨0, 0, 0⟩
  | x :: l => l.foldl minF x

theorem f52L (k : Nat) (a : Sl CS) (z : CS) (ha : a.l.length ≤ 6) : ∀ (j n i : Nat) (m : CS), i + j = a.l.length → j < n → ∃ q, F52_50_L0 (k + 4) a z n i m = some (q, (a.l.drop i).foldl minF m)
  | j, 0, i, m, _, h => by omega
  | 0, n + 1, i, m, hij, _ => by
    rw [F52_50_L0, if_neg (by simp [Sl.len]; omega), show a.l.drop i = [] from List.drop_eq_nil_of_le (by omega)]
    exact ⟨_, rfl⟩
  | j + 1, n + 1, i, m, hij, hn => by
    have ha' : i < a.l.length := by omega
    have e1 : Sl.at? a (i : Int) = some a.l[i] := by rw [Sl.at?_nat]; exact List.getElem?_eq_getElem ha'
    obtain ⟨q, h1⟩ := f52L k a z ha j n (i + 1) (minF m a.l[i]) (by omega) (by omega)
    refine ⟨q, ?_⟩
    have : (if decide (cmpC a.l[i] m < 0) = true then Option.bind (Sl.at? a (i : Int)) fun y73 => some y73 else some m) = some (minF m a.l[i]) := by
      unfold minF
      by_cases h : ltb a.l[i] m = true
      · rw [if_pos h, if_pos (by simpa using cmp_lt.2 h), bnd e1]
      · rw [if_neg h, if_neg (by simpa using fun h' => h (cmp_lt.1 h'))]
    rw [F52_50_L0, if_pos (by simp [Sl.len]; omega), bnd e1, bnd (f50 _ _ _), bnd this, ad_nat (by omega), h1, drop_cons ha', List.foldl_cons]

theorem f34 (k : Nat) (x : Sl CS) : F34 (k + 8) x = some (leastL (own x.l)) := by
  obtain ⟨a, h1, h2⟩ := f47 k x
  have la : a.l.length ≤ 6 := by rw [h2]; exact own_len _
  unfold F34
  rw [bnd h1, ← h2]
  cases hl : a.l with
  | nil => rw [if_pos (by simp [Sl.len, hl])]; rfl
  | cons c r =>
    have e0 : Sl.at? a 0 = some c := by have := Sl.at?_nat a 0; simpa [hl] using this
    obtain ⟨q, h3⟩ := f52L (k + 4) a ⟨0, 0, 0⟩ la (a.l.length - 1) (k + 8) 1 c (by rw [hl]; simp; omega) (by omega)
    have h3' : F52_50_L0 (k + 8) a ⟨0, 0, 0⟩ (k + 8) 1 c = some (q, (a.l.drop 1).foldl minF c) := h3
    rw [if_neg (by simp [Sl.len, hl]; omega)]
    unfold F52_50
    rw [if_neg (by simp [Sl.len, hl]; omega), bnd e0, bnd h3', hl]
    rfl

/-! Alike -/
theorem eqb {a b : CS} : ((a.Time == b.Time) && ((a.Seq == b.Seq) && ((a.Rep == b.Rep) && true))) = decide (a = b) := by
  cases a; cases b
  simp [Bool.decide_and]
  rfl

theorem f53L (k : Nat) (b a : Sl CS) (ha : a.l.length ≤ 20) (hab : a.l.length = b.l.length) : ∀ (j n i : Nat), i + j = a.l.length → j < n → ∃ o, F53_54_L0 k b a (Sl.len a) n i = some o ∧ (match o with | .ret r => r = false ∧ a.l.drop i ≠ b.l.drop i | .brk _ => a.l.drop i = b.l.drop i)
  | j, 0, i, _, h => by omega
  | 0, n + 1, i, hij, _ => by
    rw [F53_54_L0, if_neg (by simp [Sl.len]; omega)]
    exact ⟨_, rfl, by simp only; rw [show a.l.drop i = [] from List.drop_eq_nil_of_le (by omega), show b.l.drop i = [] from List.drop_eq_nil_of_le (by omega)]⟩
  | j + 1, n + 1, i, hij, hn => by
    have ha' : i < a.l.length := by omega
    have hb' : i < b.l.length := by omega
    have e1 : Sl.at? a (i : Int) = some a.l[i] := by rw [Sl.at?_nat]; exact List.getElem?_eq_getElem ha'
    have e2 : Sl.at? b (i : Int) = some b.l[i] := by rw [Sl.at?_nat]; exact List.getElem?_eq_getElem hb'
    rw [F53_54_L0, if_pos (by simp [Sl.len]; omega), bnd e1, bnd e2, bnd (show F54 k a.l[i] b.l[i] = some (decide (a.l[i] = b.l[i])) by unfold F54; rw [eqb]), drop_cons ha', drop_cons hb']
    by_cases h : a.l[i] = b.l[i]
    · rw [if_neg (by simp [h]), ad_nat (by omega)]
      obtain ⟨o, h1, h2⟩ := f53L k b a ha hab j n (i + 1) (by omega) (by omega)
      refine ⟨o, h1, ?_⟩
      cases o with
      | ret r => exact ⟨h2.1, fun he => h2.2 (List.cons.inj he).2⟩
      | brk v => simp only at h2 ⊢; rw [h, h2]
    · rw [if_pos (by simp [h])]
      exact ⟨_, rfl, rfl, fun he => h (List.cons.inj he).1⟩

theorem f36 (k : Nat) (x y : Sl CS) : F36 (k + 8) x y = some (decide (own x.l = own y.l)) := by
  obtain ⟨a, h1, h2⟩ := f47 k x
  obtain ⟨b, h3, h4⟩ := f47 k y
  have la : a.l.length ≤ 6 := by rw [h2]; exact own_len _
  unfold F36 F53_54
  rw [bnd h1, bnd h3, ← h2, ← h4]
  by_cases hl : a.l.length = b.l.length
  · obtain ⟨o, h5, h6⟩ := f53L (k + 8) b a (by omega) hl a.l.length (k + 8) 0 (by omega) (by omega)
    have h5' : F53_54_L0 (k + 8) b a (Sl.len a) (k + 8) 0 = some o := h5
    rw [if_neg (by simp [Sl.len, hl]), bnd h5']
    cases o with
    | ret r => simp only [List.drop_zero] at h6; rw [h6.1]; simp [h6.2]
    | brk v => simp only [List.drop_zero] at h6; simp [h6]
  · rw [if_pos (by simp only [Sl.len, bne_iff_ne, ne_eq]; omega)]
    have : a.l ≠ b.l := fun h => hl (by rw [h])
    simp [this]

/-! New ones -/
def newL (i : Nat) : Nat → List CS
  | 0 => []
  | j + 1 => ⟨0, 0, (i : Int)⟩ :: newL (i + 1) j

theorem f20L (k : Nat) (m : Nat) (hm : m ≤ 6) : ∀ (j n i : Nat) (z : Sl CS), i + j = m → j < n → z.l.length = i → ∃ q w, F20_L0 k (m : Int) n z i = some (w, q) ∧ w.l = z.l ++ newL i j
  | j, 0, i, z, _, h, _ => by omega
  | 0, n + 1, i, z, hij, _, _ => by
    rw [F20_L0, if_neg (by simp; omega)]
    exact ⟨_, _, rfl, by simp [newL]⟩
  | j + 1, n + 1, i, z, hij, hn, hz => by
    obtain ⟨z', h3, h4⟩ := Sl.app?_l (α := CS) (bytes := 24) (x := z) (ys := [⟨0, 0, (i : Int)⟩]) (by simp; omega)
    obtain ⟨q, w', h1, h2⟩ := f20L k m hm j n (i + 1) z' (by omega) (by omega) (by rw [h4]; simp; omega)
    refine ⟨q, w', ?_, ?_⟩
    · rw [F20_L0, if_pos (by simp; omega), Sl.l_some, bnd h3, ad_nat (by omega)]
      exact h1
    · rw [h2, h4, newL, List.append_assoc]; rfl

theorem clamp (n : Int) : ∃ m : Nat, m ≤ 6 ∧ imin (imax n 0) 6 = (m : Int) ∧ ((imin n 6 = (m : Int)) ∨ (m = 0 ∧ imin n 6 < 0)) := by
  refine ⟨(imin (imax n 0) 6).toNat, ?_, ?_, ?_⟩ <;> unfold imin imax <;> (repeat' split) <;> omega

theorem f20 (k : Nat) (n : Int) (m : Nat) (hm : m ≤ 6) (h : imin (imax n 0) 6 = (m : Int)) : ∃ z, F20 (k + 8) n = some z ∧ z.l = newL 0 m := by
  obtain ⟨q, w, h1, h2⟩ := f20L (k + 8) m hm m (k + 8) 0 none (by omega) (by omega) rfl
  unfold F20
  rw [h, bnd (by simpa using h1)]
  exact ⟨_, rfl, by rw [h2]; simp [Sl.l_none]⟩

theorem newL_len : ∀ (i j : Nat), (newL i j).length = j
  | _, 0 => rfl
  | i, j + 1 => by simp [newL, newL_len]

/-! The law -/
theorem known11 : F18 60 = some true := by kernel_rfl
end Go.Proofs.Ythcchjhieolflaa.M
