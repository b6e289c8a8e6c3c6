/- Messages: what is read of an element: modifications, operations, filters. -/
import Derived.Test.YtbinlabnilidiaaDoorMsD1
import Derived.Tactics
namespace Go.Proofs.YtbinlabnilidiaaDoor.M
open Go Go.Pam
set_option maxRecDepth 20000
set_option linter.unusedVariables false
set_option linter.unusedSimpArgs false

theorem f61 (k : Nat) (b : Bool) : F61 k (if b = true then [255] else [0]) = some (b, true) := by cases b <;> rfl

theorem textsRd {k m : Nat} {t : Int} {l : List Str} {e : El} (h : Eqv (m + 2) (ls t (rowE (l.map (tx 4)))) e) (hl : l.length ≤ 200) (hk : 300 ≤ k) : F58 k e = some (row l) := by
 have h1 : All2 (Eqv (m + 1)) (l.map (tx 4)) (Sl.l e.Kids) := by
  have := h.2.2
  rwa [show (ls t (rowE (l.map (tx 4)))).Kids = rowE (l.map (tx 4)) from rfl, rowE_l] at this
 have h2 := h1.len
 rw [List.length_map] at h2
 rw [f58 e (by omega) (by omega), eqv_bodies h1, List.map_map]
 congr 2
 exact List.map_id l

theorem attrRd {k m : Nat} {x : Api_Mod} {y : El} (h : Eqv (m + 4) (attrE x) y) (hl : (Sl.l x.Values).length ≤ 14) (hk : 300 ≤ k) : (kidS y 0).Body = x.Attr ∧ F58 k (kidS y 1) = some (row (Sl.l x.Values)) :=
 ⟨eqv_body (eqv_kids h 0 (by show 0 < 2; omega)), textsRd (m := m + 1) (eqv_kids h 1 (by show 1 < 2; omega)) (by omega) hk⟩

def rMod (x : Api_Mod) : Api_Mod := ⟨x.Kind, x.Attr, row (Sl.l x.Values)⟩
theorem f60 {k : Nat} (hk : 300 ≤ k) {m : Nat} (chg : Bool) (l : List Api_Mod) (hl : l.length ≤ 14) (hx : ∀ x ∈ l, modFew x ∧ (1 ≤ x.Kind ∧ x.Kind ≤ 3) ∧ (chg = false → x.Kind = 1)) {e : El} (he : Eqv (m + 6) (modsE chg l) e) :
  F60 k e chg = some (row (l.map rMod)) := by
 have h1 : All2 (Eqv (m + 5)) (l.map (modE chg)) (Sl.l e.Kids) := by
  have := he.2.2
  rwa [show (modsE chg l).Kids = rowE (l.map (modE chg)) from rfl, rowE_l] at this
 have h2 := h1.len
 rw [List.length_map] at h2
 have hL := acc_loop0 l rMod (F60_L0 k chg e.Kids (Sl.len e.Kids)) (by
  intro n i x acc hy ha
  have hi := lt_of hy
  have hi2 : i < (Sl.l e.Kids).length := by omega
  have hq : Eqv (m + 5) (modE chg x) (Sl.l e.Kids)[i] := by
   have := h1.get i (by rw [List.length_map]; exact hi) hi2
   rw [List.getElem_map] at this
   rwa [(List.getElem?_eq_some_iff.1 hy).2] at this
  have e1 : Sl.at? e.Kids (i : Int) = some (Sl.l e.Kids)[i] := by rw [Sl.at?_nat, List.getElem?_eq_getElem hi2]
  generalize (Sl.l e.Kids)[i] = y at hq e1
  obtain ⟨q1, q2, q3⟩ := hx x (mem_of_get hy)
  rw [F60_L0, if_pos (decide_eq_true (by simp only [Sl.len]; omega)), bnd e1]
  have fin : ∀ (m' : Nat) (w : Api_Mod) (z : El), w.Kind = x.Kind → Eqv (m' + 4) (attrE x) z → (Option.bind (F55 k z 0) fun y182 =>
    Option.bind (F55 k z 1) fun y183 => Option.bind (F58 k y183) fun y184 => Option.bind (Sl.app? 48 (row acc) (Sl.l (some [(Api_Mod.mk w.Kind y182.Body y184)]))) fun z186 =>
    F60_L0 k chg e.Kids (Sl.len e.Kids) n z186 (ad .i64 (i : Int) 1)) = F60_L0 k chg e.Kids (Sl.len e.Kids) n (row (acc ++ [rMod x])) ((i + 1 : Nat) : Int) := by
   intro m' w z hw hz
   obtain ⟨a1, a2⟩ := attrRd (k := k) hz (by have := q1.2.1; omega) hk
   rw [bnd (show F55 k z 0 = some (kidS z 0) from f55 k z 0), bnd (show F55 k z 1 = some (kidS z 1) from f55 k z 1), bnd a2, a1, hw, bnd (app_row (by omega) ha), ad_nat (by omega)]
   rfl
  cases chg
  ·rw [if_neg (by decide), bnd rfl]
   exact fin (m + 1) _ _ (q3 rfl).symm hq
  ·have hk0 : Eqv (m + 4) (nm 10 (x.Kind - 1)) (kidS y 0) := eqv_kids hq 0 (by show 0 < 2; omega)
   have hk1 : Eqv (m + 4) (attrE x) (kidS y 1) := eqv_kids hq 1 (by show 1 < 2; omega)
   rw [if_pos rfl, bnd (show F55 k y 0 = some (kidS y 0) from f55 k y 0), bnd (f56 (by omega) (by omega) hk0), bnd (show F55 k y 1 = some (kidS y 1) from f55 k y 1), bnd rfl, ad64 (by omega)]
   exact fin m _ _ (by show x.Kind - 1 + 1 = x.Kind; omega) hk1) (by
  intro n acc
  rw [F60_L0, if_neg (by simp [Sl.len, h2])]) (n := k) (by omega) (by omega)
 unfold F60
 rw [bnd hL]

/-! Operations -/
theorem t96 (n : Nat) : F57 (n + 20) 96 = some (1, 0) := by kernel_rfl
theorem t66 (n : Nat) : F57 (n + 20) 66 = some (2, 0) := by kernel_rfl
theorem t99 (n : Nat) : F57 (n + 20) 99 = some (3, 0) := by kernel_rfl
theorem t102 (n : Nat) : F57 (n + 20) 102 = some (4, 0) := by kernel_rfl
theorem t104 (n : Nat) : F57 (n + 20) 104 = some (5, 0) := by kernel_rfl
theorem t74 (n : Nat) : F57 (n + 20) 74 = some (6, 0) := by kernel_rfl
theorem t108 (n : Nat) : F57 (n + 20) 108 = some (7, 0) := by kernel_rfl
theorem t110 (n : Nat) : F57 (n + 20) 110 = some (8, 0) := by kernel_rfl
theorem t100 (n : Nat) : F57 (n + 20) 100 = some (10, 0) := by kernel_rfl
theorem t97 (n : Nat) : F57 (n + 20) 97 = some (9, 1) := by kernel_rfl
theorem t101 (n : Nat) : F57 (n + 20) 101 = some (9, 3) := by kernel_rfl
theorem t103 (n : Nat) : F57 (n + 20) 103 = some (9, 4) := by kernel_rfl
theorem t105 (n : Nat) : F57 (n + 20) 105 = some (9, 5) := by kernel_rfl
theorem t107 (n : Nat) : F57 (n + 20) 107 = some (9, 6) := by kernel_rfl
theorem t109 (n : Nat) : F57 (n + 20) 109 = some (9, 7) := by kernel_rfl
theorem t111 (n : Nat) : F57 (n + 20) 111 = some (9, 8) := by kernel_rfl

theorem f57 {k : Nat} (hk : 20 ≤ k) {a : Ms} (h : Op a) : F57 k (opE a).Tag = some (a.Op, if a.Op = 9 then a.Of else 0) := by
 obtain ⟨n, rfl⟩ : ∃ n, k = n + 20 := ⟨k - 20, by omega⟩
 have ho := h.op
 by_cases h9 : a.Op = 9
 ·have ht : (opE a).Tag = tagOf a := by unfold opE; rw [if_neg (by omega), if_neg (by omega)]; rfl
  rw [ht, h9, if_pos rfl]
  unfold tagOf
  rw [if_pos h9]
  rcases (h.res h9).1 with e | e | e | e | e | e | e <;> rw [e]
  ·exact t97 n
  ·exact t101 n
  ·exact t103 n
  ·exact t105 n
  ·exact t107 n
  ·exact t109 n
  ·exact t111 n
 ·rw [if_neg h9]
  have : a.Op = 1 ∨ a.Op = 2 ∨ a.Op = 3 ∨ a.Op = 4 ∨ a.Op = 5 ∨ a.Op = 6 ∨ a.Op = 7 ∨ a.Op = 8 ∨ a.Op = 10 := by omega
  unfold opE tagOf
  rcases this with e | e | e | e | e | e | e | e | e <;> rw [e]
  ·exact t96 n
  ·exact t66 n
  ·exact t99 n
  ·exact t102 n
  ·exact t104 n
  ·exact t74 n
  ·exact t108 n
  ·exact t110 n
  ·exact t100 n

/-! Parts of a value -/
def stepS (i : Nat) (st : Str × List Str) (p : Int × Str) : Str × List Str := if p.1 = 128 ∧ i = 0 then (st.1, st.2.set 0 p.2) else if p.1 = 130 then (p.2, st.2) else (st.1, st.2 ++ [p.2])
def foldS : Nat → Str × List Str → List (Int × Str) → Str × List Str
 | _, st, [] => st
 | i, st, p :: r => foldS (i + 1) (stepS i st p) r
def pr (e : El) : Int × Str := (e.Tag, e.Body)

theorem stepS_ne {i : Nat} {st : Str × List Str} {p : Int × Str} (h : st.2 ≠ []) : (stepS i st p).2 ≠ [] ∧ (stepS i st p).2.length ≤ st.2.length + 1 := by
 unfold stepS
 split
 ·exact ⟨by simpa using h, by simp⟩
 ·split
  ·exact ⟨h, by simp⟩
  ·exact ⟨by simp, by simp⟩

theorem f74L (k : Nat) (K : Sl El) (hl : (Sl.l K).length ≤ 100000) : ∀ (j n i : Nat) (st : Str × List Str), i + j = (Sl.l K).length → j < n → st.2 ≠ [] → st.2.length + j ≤ 200000 →
  F74_L0 k K (Sl.len K) n st.1 (i : Int) (some st.2) = some ((foldS i st (((Sl.l K).drop i).map pr)).1, (((Sl.l K).length : Nat) : Int), some (foldS i st (((Sl.l K).drop i).map pr)).2)
 | j, 0, i, st, _, h, _, _ => by omega
 | 0, n + 1, i, st, hij, _, _, _ => by
  have : i = (Sl.l K).length := by omega
  subst this
  rw [F74_L0, if_neg (by simp [Sl.len]), List.drop_eq_nil_of_le (Nat.le_refl _)]
  rfl
 | j + 1, n + 1, i, st, hij, hn, hs, hs2 => by
  have hi : i < (Sl.l K).length := by omega
  have e1 : Sl.at? K (i : Int) = some (Sl.l K)[i] := by rw [Sl.at?_nat, List.getElem?_eq_getElem hi]
  have ne := stepS_ne (i := i) (p := pr (Sl.l K)[i]) hs
  have ih := f74L k K hl j n (i + 1) (stepS i st (pr (Sl.l K)[i])) (by omega) (by omega) ne.1 (by omega)
  rw [List.drop_eq_getElem_cons hi, List.map_cons, foldS, ← ih, F74_L0, if_pos (decide_eq_true (by simp only [Sl.len]; omega)), bnd e1]
  generalize (Sl.l K)[i] = y
  have hb : (Option.bind (if ((y.Tag == 128) && ((i : Int) == 0)) = true then Option.bind (Sl.at? (some st.2) 0) fun y701 => some (Sl.set (some st.2) 0 y.Body, st.1) else
    Option.bind (if (y.Tag == 130) = true then some ((some st.2 : Sl Str), y.Body) else Option.bind (Sl.app? 16 (some st.2) (Sl.l (some [y.Body]))) fun z715 => some (z715, st.1)) fun y712 => some (y712.1, y712.2)) fun y699 =>
    F74_L0 k K (Sl.len K) n y699.2 (ad .i64 (i : Int) 1) y699.1) = F74_L0 k K (Sl.len K) n (stepS i st (pr y)).1 ((i + 1 : Nat) : Int) (some (stepS i st (pr y)).2) := by
   rw [ad_nat (by omega)]
   unfold stepS pr
   by_cases c1 : y.Tag = 128 ∧ i = 0
   ·have c : ((y.Tag == 128) && ((i : Int) == 0)) = true := by simp only [Bool.and_eq_true, beq_iff_eq]; omega
    have e2 : Sl.at? (some st.2) 0 = some (st.2[0]'(by cases h : st.2 with | nil => exact absurd h hs | cons _ _ => simp)) := by
     have : Sl.at? (some st.2) ((0 : Nat) : Int) = _ := Sl.at?_nat _ _
     rw [show ((0 : Nat) : Int) = 0 from rfl] at this
     rw [this, Sl.l_some, List.getElem?_eq_getElem]
    rw [if_pos c1, ite_pos' c, e2]
    rfl
   ·have c : ((y.Tag == 128) && ((i : Int) == 0)) = false := by
     rw [Bool.and_eq_false_iff]
     simp only [beq_eq_false_iff_ne]
     omega
    rw [if_neg c1, ite_neg' c]
    by_cases c2 : y.Tag = 130
    ·rw [if_pos c2, ite_pos' (by simpa using c2)]
     rfl
    ·rw [if_neg c2, ite_neg' (by simpa using c2), Sl.app?_ok (by simp [Sl.l]) (by simp only [Sl.l_some, List.length_singleton]; omega)]
     rfl
  exact hb

theorem allFrom_get {α : Type} {p : Nat → α → Bool} : ∀ {i : Nat} {l : List α}, allFrom p i l = true → ∀ (q : Nat) (s : α), l[q]? = some s → p (i + q) s = true
 | i, x :: xs, h, 0, s, hq => by
  have h' : (p i x && allFrom p (i + 1) xs) = true := h
  rw [Bool.and_eq_true] at h'
  simp only [List.getElem?_cons_zero, Option.some.injEq] at hq
  subst hq
  exact h'.1
 | i, x :: xs, h, q + 1, s, hq => by
  have h' : (p i x && allFrom p (i + 1) xs) = true := h
  rw [Bool.and_eq_true] at h'
  have := allFrom_get h'.2 q s (by simpa using hq)
  rwa [show i + 1 + q = i + (q + 1) by omega] at this

theorem fold_sub (m : Nat) : ∀ (l : List Str) (i j : Nat) (out : List Str), 1 ≤ i → i + l.length = m → l ≠ [] → (∀ (q : Nat) (s : Str), l[q]? = some s → q + 1 < l.length → s ≠ []) →
  ∃ y r, l = r ++ [y] ∧ foldS j ([], out) ((flatF (subE m) i l).map pr) = (y, out ++ r)
 | [], _, _, _, _, _, h, _ => absurd rfl h
 | [x], i, j, out, hi, hm, _, _ => by
  refine ⟨x, [], rfl, ?_⟩
  simp only [List.length_singleton] at hm
  rw [flatF, flatF, List.append_nil, List.append_nil]
  unfold subE
  by_cases hx : x = []
  ·rw [if_pos hx, hx]; rfl
  ·rw [if_neg hx]
   have : subT m i = 130 := by unfold subT; rw [if_neg (by omega), if_pos hm]
   rw [this]
   rfl
 | x :: y :: r, i, j, out, hi, hm, _, hq => by
  have hx : x ≠ [] := hq 0 x rfl (by simp)
  simp only [List.length_cons] at hm
  have ht : subT m i = 129 := by unfold subT; rw [if_neg (by omega), if_neg (by omega)]
  obtain ⟨z, w, h1, h2⟩ := fold_sub m (y :: r) (i + 1) (j + 1) (out ++ [x]) (by omega) (by simp only [List.length_cons]; omega) (by simp) (fun q s h1 h2 => hq (q + 1) s (by simpa using h1) (by simp only [List.length_cons] at h2 ⊢; omega))
  refine ⟨z, x :: w, by rw [h1]; rfl, ?_⟩
  rw [flatF, List.map_append]
  have : subE m i x = [tx 129 x] := by unfold subE; rw [if_neg hx, ht]
  rw [this]
  show foldS (j + 1) (stepS j ([], out) (129, x)) ((flatF (subE m) (i + 1) (y :: r)).map pr) = _
  have : stepS j ([], out) (129, x) = ([], out ++ [x]) := by unfold stepS; rw [if_neg (by simp), if_neg (by simp)]
  rw [this, h2]
  simp

theorem eqv_prs {m : Nat} : ∀ {l r : List El}, All2 (Eqv m) l r → r.map pr = l.map pr
 | [], [], _ => rfl
 | a :: l, b :: r, h => by
  have : pr b = pr a := by unfold pr; rw [eqv_body h.1, eqv_tag h.1]
  simp only [List.map_cons, this, eqv_prs h.2]

theorem f74 {k m : Nat} (hk : 300 ≤ k) {l : List Str} (hl : partsS l = true) {e : El} {t : Int} (he : Eqv (m + 1) (ls t (rowE (flatF (subE l.length) 0 l))) e) : F74 k e = some (some l) := by
 unfold partsS at hl
 simp only [Bool.and_eq_true, decide_eq_true_eq] at hl
 obtain ⟨⟨⟨g1, g2⟩, _⟩, g3⟩ := hl
 have h1 : All2 (Eqv m) (flatF (subE l.length) 0 l) (Sl.l e.Kids) := by
  have := he.2.2
  rwa [show (ls t (rowE (flatF (subE l.length) 0 l))).Kids = rowE (flatF (subE l.length) 0 l) from rfl, rowE_l] at this
 have h2 := h1.len
 have h3 := flat_len2 (fun i x => subE_len l.length i x) 0 l
 have hL := f74L k e.Kids (by omega) (Sl.l e.Kids).length k 0 ([], [[]]) (by omega) (by omega) (by simp) (by simp only [List.length_singleton]; omega)
 rw [show ((0 : Nat) : Int) = 0 from rfl, List.drop_zero, eqv_prs h1] at hL
 have hF : ∃ y r, l = r ++ [y] ∧ foldS 0 ([], [[]]) ((flatF (subE l.length) 0 l).map pr) = (y, r) := by
  cases l with
  | nil => simp at g1
  | cons x r =>
   simp only [List.length_cons] at g1
   have hq : ∀ (q : Nat) (s : Str), r[q]? = some s → q + 1 < r.length → s ≠ [] := by
    intro q s h4 h5 h6
    have := allFrom_get g3 (q + 1) s (by simpa using h4)
    subst h6
    unfold partOk at this
    simp only [List.length_cons, Nat.zero_add, Bool.not_eq_true', Bool.or_eq_false_iff, Bool.and_eq_false_iff, decide_eq_false_iff_not] at this
    rcases this.2 with (h | h) | h
    ·simp at h
    ·omega
    ·omega
   have hr : r ≠ [] := by intro h; subst h; simp at g1
   by_cases hx : x = []
   ·obtain ⟨y, w, a1, a2⟩ := fold_sub (x :: r).length r 1 0 [[]] (by omega) (by simp only [List.length_cons]; omega) hr hq
    refine ⟨y, x :: w, by rw [a1]; rfl, ?_⟩
    rw [flatF]
    have : subE (x :: r).length 0 x = [] := by unfold subE; rw [if_pos hx]
    rw [this, List.nil_append, Nat.zero_add, a2, hx]
    rfl
   ·obtain ⟨y, w, a1, a2⟩ := fold_sub (x :: r).length r 1 1 [x] (by omega) (by simp only [List.length_cons]; omega) hr hq
    refine ⟨y, x :: w, by rw [a1]; rfl, ?_⟩
    rw [flatF]
    have : subE (x :: r).length 0 x = [tx 128 x] := by unfold subE; rw [if_neg hx]; rfl
    rw [this, List.map_append]
    show foldS (0 + 1) (stepS 0 ([], [[]]) (128, x)) ((flatF (subE (x :: r).length) (0 + 1) r).map pr) = _
    have : stepS 0 ([], [[]]) (128, x) = ([], [x]) := rfl
    rw [this, Nat.zero_add, a2]
    rfl
 obtain ⟨y, r, q1, q2⟩ := hF
 rw [q2] at hL
 unfold F74
 have hr : r.length + 1 ≤ 30 := by have := congrArg List.length q1; simp at this; omega
 rw [bnd hL]
 simp only
 rw [Sl.app?_ok (by simp [Sl.l]) (by simp only [Sl.l_some, List.length_singleton]; omega)]
 rw [q1]
 rfl
end Go.Proofs.YtbinlabnilidiaaDoor.M
