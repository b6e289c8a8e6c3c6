/- Filters: counts, what is a filter, what is the same. -/
import Derived.Test.YtbinlabnilidiaaDoorMsFa
namespace Go.Proofs.YtbinlabnilidiaaDoor.M
open Go Go.Pam
set_option maxRecDepth 20000
set_option linter.unusedVariables false
set_option linter.unusedSimpArgs false

/-! Few -/
def fewP : Nat → Fil → Prop
 | 0, _ => False
 | n + 1, f => (Sl.l f.Kids).length ≤ 200000 ∧ f.Attr.length ≤ 200000 ∧ f.Value.length ≤ 200000 ∧ (Sl.l f.Subs).length ≤ 200000 ∧ (∀ s ∈ (Sl.l f.Subs), s.length ≤ 200000) ∧ ∀ g ∈ (Sl.l f.Kids), fewP n g

theorem mem_of_get {α : Type} {l : List α} {i : Nat} {y : α} (h : l[i]? = some y) : y ∈ l := List.mem_of_getElem? h

theorem allFrom_mem {α : Type} {p : Nat → α → Bool} : ∀ {i : Nat} {l : List α}, allFrom p i l = true → ∀ y ∈ l, ∃ j, p j y = true
 | i, x :: xs, h, y, hy => by
  have h' : (p i x && allFrom p (i + 1) xs) = true := h
  rw [Bool.and_eq_true] at h'
  rcases List.mem_cons.1 hy with rfl | hy
  ·exact ⟨i, h'.1⟩
  ·exact allFrom_mem h'.2 y hy

/-! Counts -/
def cl : List Int → Int → Int
 | [], x => x
 | c :: r, x => if x ≤ 20 then cl r (x + c) else x
def kidsK (n : Int) : Bool := decide (n ≥ 1) && decide (n ≤ 3)
def cS : Nat → Fil → Int
 | 0, _ => 1
 | n + 1, f => if kidsK f.Kind = true then imin (cl ((Sl.l f.Kids).map (cS n)) 1) 21 else 1

theorem cl_ge : ∀ (l : List Int) (x : Int), (∀ c ∈ l, 1 ≤ c) → x ≤ cl l x
 | [], x, _ => Int.le_refl _
 | c :: r, x, h => by
  simp only [cl]
  split
  ·have := cl_ge r (x + c) (fun c' hc => h c' (List.mem_cons_of_mem _ hc))
   have := h c List.mem_cons_self
   omega
  ·exact Int.le_refl _

theorem cS_range : ∀ (n : Nat) (f : Fil), 1 ≤ cS n f ∧ cS n f ≤ 21
 | 0, f => by simp [cS]
 | n + 1, f => by
  simp only [cS]
  split
  ·have := cl_ge ((Sl.l f.Kids).map (cS n)) 1 (fun c hc => by
    obtain ⟨g, _, rfl⟩ := List.mem_map.1 hc; exact (cS_range n g).1)
   unfold imin; split <;> omega
  ·omega

theorem f47L (rc : Fil → Option Int) (k : Nat) (f : Fil) (q : Fil → Int) (hq : ∀ g ∈ (Sl.l f.Kids), rc g = some (q g) ∧ 1 ≤ q g ∧ q g ≤ 21) (hk : kidsK f.Kind = true) (hl : (Sl.l f.Kids).length ≤ 200000) :
  ∀ (j n i : Nat) (x : Int), i + j = (Sl.l f.Kids).length → j < n → 0 ≤ x → x ≤ 1000 → ∃ i', F47_L0 rc k f n x (i : Int) = some (cl (((Sl.l f.Kids).drop i).map q) x, i')
 | j, 0, i, x, _, h, _, _ => by omega
 | 0, n + 1, i, x, hij, _, _, _ => by
  have : i = (Sl.l f.Kids).length := by omega
  subst this
  have hc : F66 k f.Kind = some true := by unfold F66; rw [show ((decide (f.Kind ≥ 1)) && (decide (f.Kind ≤ 3))) = true from hk]
  rw [F47_L0, bnd hc, if_neg (by simp [Sl.len])]
  simp [cl]
 | j + 1, n + 1, i, x, hij, hn, h0, h1 => by
  have hi : i < (Sl.l f.Kids).length := by omega
  have hc : F66 k f.Kind = some true := by unfold F66; rw [show ((decide (f.Kind ≥ 1)) && (decide (f.Kind ≤ 3))) = true from hk]
  have hd : ((Sl.l f.Kids).drop i).map q = q (Sl.l f.Kids)[i] :: ((Sl.l f.Kids).drop (i + 1)).map q := by rw [List.drop_eq_getElem_cons hi]; rfl
  obtain ⟨q1, q2, q3⟩ := hq (Sl.l f.Kids)[i] (List.getElem_mem hi)
  rw [F47_L0, bnd hc, hd]
  have hlt : decide ((i : Int) < Sl.len f.Kids) = true := decide_eq_true (by simp only [Sl.len]; omega)
  simp only [hlt, Bool.true_and, cl]
  by_cases hx : x ≤ 20
  ·rw [if_pos (decide_eq_true hx), if_pos hx, bnd (at_of (List.getElem?_eq_getElem hi)), bnd q1, ad_nat (by omega), ad64 (by omega)]
   exact f47L rc k f q hq hk hl j n (i + 1) _ (by omega) (by omega) (by omega) (by omega)
  ·rw [if_neg (by simpa using hx), if_neg hx]
   exact ⟨_, rfl⟩

theorem f47 : ∀ (n k : Nat) (f : Fil), fewP n f → n + 200100 ≤ k → F47 k f = some (cS n f)
 | 0, k, f, h, _ => h.elim
 | n + 1, 0, f, _, hk => by omega
 | n + 1, k + 1, f, h, hk => by
  obtain ⟨h1, h2, h3, h4, h5, h6⟩ := h
  rw [F47]
  by_cases hkk : kidsK f.Kind = true
  ·obtain ⟨i', hL⟩ := f47L (F47 k) k f (cS n) (fun g hg => ⟨f47 n k g (h6 g hg) (by omega), cS_range n g⟩) hkk h1 (Sl.l f.Kids).length k 0 1 (by omega) (by omega) (by omega) (by omega)
   rw [List.drop_zero] at hL
   have hL' : F47_L0 (F47 k) k f k 1 0 = some (cl ((Sl.l f.Kids).map (cS n)) 1, i') := hL
   rw [bnd hL']
   simp only [cS, hkk, if_true]
  ·obtain ⟨k', rfl⟩ : ∃ k', k = k' + 1 := ⟨k - 1, by omega⟩
   have hc : F66 (k' + 1) f.Kind = some false := by
    unfold F66; rw [show ((decide (f.Kind ≥ 1)) && (decide (f.Kind ≤ 3))) = false by simpa [kidsK] using hkk]
   rw [F47_L0, bnd hc]
   simp only [Bool.false_and, Bool.false_eq_true, if_false, Option.bind_some, cS, hkk]
   rfl

/-! Parts -/
def partOk (m : Nat) (i : Nat) (s : Str) : Bool := !(decide (s.length > 60) || (s == [] && decide (i > 0) && decide (i + 1 < m)))
def partsS (l : List Str) : Bool := decide (2 ≤ l.length) && decide (l.length ≤ 20) && l.any (fun s => !(s == [])) && allFrom (partOk l.length) 0 l

theorem join_flat : ∀ (l : List Str), Lib.join l [] = l.flatten
 | [] => rfl
 | x :: r => by
  rw [Lib.join_cons]
  simp [Lib.joinTail]

theorem flat_len : ∀ (l : List Str), (∀ s ∈ l, s.length ≤ 200000) → l.flatten.length ≤ l.length * 200000
 | [], _ => by simp
 | x :: r, h => by
  have := flat_len r (fun s hs => h s (List.mem_cons_of_mem _ hs))
  have := h x List.mem_cons_self
  simp only [List.flatten_cons, List.length_append, List.length_cons]
  omega

theorem flat_nil : ∀ (l : List Str), (l.flatten == []) = !l.any (fun s => !(s == []))
 | [] => rfl
 | x :: r => by
  have := flat_nil r
  cases x with
  | nil => simpa using this
  | cons c x => rfl

theorem partOk_eq (l : List Str) (i : Nat) (y : Str) (hl : l.length ≤ 200000) : ((decide ((Str.len y) > 60)) || (((y == []) && (decide ((i : Int) > 0))) && (decide ((i : Int) < (sb .i64 ((l.length : Nat) : Int) 1))))) = !partOk l.length i y := by
 rw [sb64 (by omega)]
 unfold partOk
 rw [Bool.not_not]
 have e1 : decide (Str.len y > 60) = decide (y.length > 60) := by rw [decide_eq_decide]; simp only [Str.len]; omega
 have e2 : decide ((i : Int) > 0) = decide (i > 0) := by rw [decide_eq_decide]; omega
 have e3 : decide ((i : Int) < ((l.length : Nat) : Int) - 1) = decide (i + 1 < l.length) := by rw [decide_eq_decide]; omega
 rw [e1, e2, e3]

theorem f70 {k : Nat} (hk : 200100 ≤ k) (x : Sl Str) (h1 : x.l.length ≤ 200000) (h2 : ∀ s ∈ x.l, s.length ≤ 200000) : F70 k x = some (partsS x.l) := by
 have hloop := all_loop0 x.l (partOk x.l.length) (F70_L0 k x (Sl.len x)) (by
  intro n i y hy
  have hi := lt_of hy
  rw [F70_L0, if_pos (decide_eq_true (by simp only [Sl.len]; omega)), bnd (at_of hy), ad_nat (by omega)]
  rw [show Sl.len x = ((x.l.length : Nat) : Int) from rfl, partOk_eq x.l i y h1]
  cases partOk x.l.length i y <;> rfl) (by
  intro n; rw [F70_L0, if_neg (by simp [Sl.len])]) (n := k) (by omega)
 unfold F70 partsS
 by_cases hc : ((decide ((Sl.len x) < 2)) || (decide ((Sl.len x) > 20))) = true
 ·rw [if_pos hc]
  simp only [Option.bind_some, if_true]
  have : (decide (2 ≤ x.l.length) && decide (x.l.length ≤ 20)) = false := by
   simp only [Bool.or_eq_true, decide_eq_true_eq] at hc; simp only [Sl.len] at hc
   rw [Bool.and_eq_false_iff, decide_eq_false_iff_not, decide_eq_false_iff_not]; omega
  rw [this]; rfl
 ·rw [if_neg hc]
  have hr : (decide (2 ≤ x.l.length) && decide (x.l.length ≤ 20)) = true := by
   simp only [Bool.or_eq_true, decide_eq_true_eq] at hc; simp only [Sl.len] at hc
   rw [Bool.and_eq_true, decide_eq_true_eq, decide_eq_true_eq]; omega
  have hj : Sl.join? x [] = some x.l.flatten := by
   unfold Sl.join?
   rw [join_flat, if_pos ⟨by omega, by have := flat_len x.l h2; omega⟩]
  rw [bnd hj, hr, flat_nil]
  simp only [Option.bind_some, Bool.true_and]
  cases x.l.any (fun s => !(s == []))
  ·rfl
  ·simp only [Bool.not_true, Bool.false_eq_true, if_false, Bool.true_and]
   rw [bnd hloop]
   exact out_all

end Go.Proofs.YtbinlabnilidiaaDoor.M
