/- Messages as elements: rows of elements. -/
import Derived.Test.YtbinlabnilidiaaDoorMsE3
namespace Go.Proofs.YtbinlabnilidiaaDoor.M
open Go Go.Pam
set_option maxRecDepth 20000
set_option linter.unusedVariables false
set_option linter.unusedSimpArgs false

def addE (acc : Sl El) : List El → Sl El
 | [] => acc
 | x :: r => some (Sl.l acc ++ x :: r)
theorem addE_l (acc : Sl El) (r : List El) : Sl.l (addE acc r) = Sl.l acc ++ r := by
 cases r with
 | nil => simp [addE]
 | cons x r => rfl
theorem addE_add (acc : Sl El) (a b : List El) : addE (addE acc a) b = addE acc (a ++ b) := by
 cases b with
 | nil => rw [List.append_nil]; rfl
 | cons y b =>
  show some (Sl.l (addE acc a) ++ y :: b) = addE acc (a ++ y :: b)
  rw [addE_l, List.append_assoc]
  cases a <;> rfl
abbrev rowE (l : List El) : Sl El := addE none l
theorem rowE_l (l : List El) : Sl.l (rowE l) = l := by rw [addE_l]; rfl

def flatF {α : Type} (g : Nat → α → List El) : Nat → List α → List El
 | _, [] => []
 | i, x :: xs => g i x ++ flatF g (i + 1) xs
theorem flatF_map {α : Type} (g : α → El) : ∀ (i : Nat) (l : List α), flatF (fun _ x => [g x]) i l = l.map g
 | _, [] => rfl
 | i, x :: xs => by rw [flatF, flatF_map g (i + 1) xs]; rfl

theorem app_loop {α : Type} (l : List α) (g : Nat → α → List El) (hg : ∀ i x, (g i x).length ≤ 1) (Lf : Nat → Sl El → Int → Option (Sl El × Int))
  (h1 : ∀ (n i : Nat) (y : α) (acc : Sl El), l[i]? = some y → (Sl.l acc).length ≤ 200000 → Lf (n + 1) acc (i : Int) = Lf n (addE acc (g i y)) ((i + 1 : Nat) : Int))
  (h2 : ∀ n acc, Lf (n + 1) acc ((l.length : Nat) : Int) = some (acc, ((l.length : Nat) : Int))) :
  ∀ (j n i : Nat) (acc : Sl El), i + j = l.length → j < n → (Sl.l acc).length + j ≤ 200000 → Lf n acc (i : Int) = some (addE acc (flatF g i (l.drop i)), ((l.length : Nat) : Int))
 | j, 0, i, _, _, h, _ => by omega
 | 0, n + 1, i, acc, hij, _, _ => by
  have : i = l.length := by omega
  subst this
  rw [h2, List.drop_eq_nil_of_le (Nat.le_refl _)]; rfl
 | j + 1, n + 1, i, acc, hij, hn, ha => by
  have hi : i < l.length := by omega
  rw [h1 n i l[i] acc (List.getElem?_eq_getElem hi) (by omega), app_loop l g hg Lf h1 h2 j n (i + 1) _ (by omega) (by omega) (by rw [addE_l, List.length_append]; have := hg i l[i]; omega), addE_add, List.drop_eq_getElem_cons hi]
  rfl
theorem app_loop0 {α : Type} (l : List α) (g : Nat → α → List El) (hg : ∀ i x, (g i x).length ≤ 1) (Lf : Nat → Sl El → Int → Option (Sl El × Int))
  (h1 : ∀ (n i : Nat) (y : α) (acc : Sl El), l[i]? = some y → (Sl.l acc).length ≤ 200000 → Lf (n + 1) acc (i : Int) = Lf n (addE acc (g i y)) ((i + 1 : Nat) : Int))
  (h2 : ∀ n acc, Lf (n + 1) acc ((l.length : Nat) : Int) = some (acc, ((l.length : Nat) : Int))) {n : Nat} (hn : l.length < n) (hl : l.length ≤ 200000) :
  Lf n none 0 = some (rowE (flatF g 0 l), ((l.length : Nat) : Int)) := by
 have := app_loop l g hg Lf h1 h2 l.length n 0 none (by omega) hn (by show 0 + l.length ≤ 200000; omega)
 rw [List.drop_zero] at this
 exact this

theorem app1 {acc : Sl El} {y : El} (h : (Sl.l acc).length ≤ 200000) : Sl.app? 48 acc (Sl.l (some [y])) = some (addE acc [y]) := by
 rw [Sl.app?_ok (by simp [Sl.l]) (by simp [Sl.l] at h ⊢; omega)]
 rfl

def tx (t : Int) (s : Str) : El := ⟨t, s, none⟩
def ls (t : Int) (l : Sl El) : El := ⟨t, [], l⟩

/-! Texts -/
theorem texts_a (k : Nat) (x : Sl Str) (w : Ms) (hl : (Sl.l x).length ≤ 200) (hk : 300 ≤ k) : F14_L1 k x (Sl.len x) w k none 0 = some (rowE ((Sl.l x).map (tx 4)), (((Sl.l x).length : Nat) : Int)) := by
 rw [← flatF_map (tx 4) 0]
 refine app_loop0 (Sl.l x) _ (fun _ _ => Nat.le_refl _) (F14_L1 k x (Sl.len x) w) ?_ ?_ (by omega) (by omega)
 ·intro n i y acc hy ha
  have hi := lt_of hy
  rw [F14_L1, if_pos (decide_eq_true (by simp only [Sl.len]; omega)), bnd (at_of hy), bnd (show F13 k 4 y = some (tx 4 y) from rfl), bnd (app1 ha), ad_nat (by omega)]
 ·intro n acc
  rw [F14_L1, if_neg (by simp [Sl.len])]

theorem texts_b (k : Nat) (t : Int) (x : Sl Str) (hl : (Sl.l x).length ≤ 200) (hk : 300 ≤ k) : R61 k t x = some (ls t (rowE ((Sl.l x).map (tx 4)))) := by
 have h := app_loop0 (Sl.l x) (fun _ y => [tx 4 y]) (fun _ _ => Nat.le_refl _) (R61_L0 k t x (Api_Element.mk 0 [] none)) (by
  intro n i y acc hy ha
  have hi := lt_of hy
  rw [R61_L0, if_pos (decide_eq_true (by simp only [Sl.len]; omega)), bnd (at_of hy), bnd (show R57 k y = some (tx 4 y) from rfl), bnd (app1 ha), ad_nat (by omega)]) (by
  intro n acc
  rw [R61_L0, if_neg (by simp [Sl.len])]) (n := k) (by omega) (by omega)
 rw [flatF_map] at h
 unfold R61
 rw [bnd h]
 rfl

/-! Filters -/
def subT (m i : Nat) : Int := if i = 0 then 128 else if i + 1 = m then 130 else 129
def subE (m : Nat) (i : Nat) (s : Str) : List El := if s = [] then [] else [tx (subT m i) s]
def elF : Nat → Fil → El
 | 0, _ => ls 0 none
 | n + 1, f =>
  if kidsK f.Kind = true then ls (159 + f.Kind) (rowE ((Sl.l f.Kids).map (elF n)))
  else if f.Kind = 7 then tx 135 f.Attr
  else if f.Kind = 8 then ls 164 (some [tx 4 f.Attr, ls 48 (rowE (flatF (subE (Sl.l f.Subs).length) 0 (Sl.l f.Subs)))])
  else ls (if f.Kind = 4 then 163 else if f.Kind = 5 then 165 else 166) (some [tx 4 f.Attr, tx 4 f.Value])

theorem subE_len (m i : Nat) (s : Str) : (subE m i s).length ≤ 1 := by
 unfold subE
 split <;> simp

theorem subT_a {m i : Nat} (h : i < m) (hm : m ≤ 200) : (if (i : Int) == 0 then some 128 else Option.bind (if (i : Int) == (sb .i64 ((m : Nat) : Int) 1) then some 130 else some 129) fun y => some y) = some (subT m i) := by
 rw [sb64 (by omega)]
 unfold subT
 by_cases h0 : i = 0
 ·subst h0; rfl
 ·have e0 : ((i : Int) == 0) = false := by simpa using h0
  rw [e0, if_neg (by simp), if_neg h0]
  by_cases h1 : i + 1 = m
  ·have e1 : ((i : Int) == ((m : Nat) : Int) - 1) = true := by simp; omega
   rw [e1, if_pos rfl, if_pos h1]; rfl
  ·have e1 : ((i : Int) == ((m : Nat) : Int) - 1) = false := by simp; omega
   rw [e1, if_neg (by simp), if_neg h1]; rfl

theorem filter_a : ∀ (n k : Nat) (f : Fil), fewP n f → isS n f = true → n + 200110 ≤ k → F32 k f = some (elF n f) ∧ R60 k f = some (elF n f)
 | 0, k, f, h, _, _ => h.elim
 | n + 1, 0, f, _, _, hk => by omega
 | n + 1, k + 1, f, h, hi, hk => by
  obtain ⟨h1, h2, h3, h4, h5, h6⟩ := h
  rw [isS] at hi
  by_cases hkk : kidsK f.Kind = true
  ·rw [if_pos hkk] at hi
   simp only [Bool.and_eq_true, List.all_eq_true] at hi
   have hkids := hi.2
   have hr : 1 ≤ f.Kind ∧ f.Kind ≤ 3 := by unfold kidsK at hkk; rw [Bool.and_eq_true, decide_eq_true_eq, decide_eq_true_eq] at hkk; omega
   have la := app_loop0 (Sl.l f.Kids) (fun _ y => [elF n y]) (fun _ _ => Nat.le_refl _) (F32_L1 (F32 k) k (159 + f.Kind) f.Kids (Sl.len f.Kids) (Api_Element.mk 0 [] none)) (by
    intro m i y acc hy ha
    have hi := lt_of hy
    rw [F32_L1, if_pos (decide_eq_true (by simp only [Sl.len]; omega)), bnd (at_of hy), bnd (filter_a n k y (h6 y (mem_of_get hy)) (hkids y (mem_of_get hy)) (by omega)).1, bnd (app1 ha), ad_nat (by omega)]) (by
    intro m acc
    rw [F32_L1, if_neg (by simp [Sl.len])]) (n := k) (by omega) (by omega)
   have lb := app_loop0 (Sl.l f.Kids) (fun _ y => [elF n y]) (fun _ _ => Nat.le_refl _) (R60_L0 (R60 k) k (Api_Element.mk 0 [] none) f) (by
    intro m i y acc hy ha
    have hi := lt_of hy
    rw [R60_L0, if_pos (decide_eq_true (by simp only [Sl.len]; omega)), bnd (at_of hy), bnd (filter_a n k y (h6 y (mem_of_get hy)) (hkids y (mem_of_get hy)) (by omega)).2, bnd (app1 ha), ad_nat (by omega)]) (by
    intro m acc
    rw [R60_L0, if_neg (by simp [Sl.len])]) (n := k) (by omega) (by omega)
   rw [flatF_map] at la lb
   have hE : elF (n + 1) f = ls (159 + f.Kind) (rowE ((Sl.l f.Kids).map (elF n))) := by rw [elF, if_pos hkk]
   have htag : Sl.at? (some [0, 160, 161, 162, 163, 165, 166, 135, 164]) f.Kind = some (159 + f.Kind) := by
    have : f.Kind = 1 ∨ f.Kind = 2 ∨ f.Kind = 3 := by omega
    rcases this with e | e | e <;> rw [e] <;> rfl
   have hk123 : (if f.Kind == 1 then some (f.Kind == 1) else Option.bind (if f.Kind == 2 then some (f.Kind == 2) else some (f.Kind == 3)) fun y => some y) = some true := by
    have : f.Kind = 1 ∨ f.Kind = 2 ∨ f.Kind = 3 := by omega
    rcases this with e | e | e <;> rw [e] <;> rfl
   constructor
   ·rw [F32, bnd htag, if_neg (by simp; omega), bnd hk123, if_pos rfl, bnd la, hE]; rfl
   ·have hc : cv .u8 (ad .i64 159 f.Kind) = 159 + f.Kind := by rw [ad64 (by omega), cv8 (by omega)]
    rw [R60, if_pos (decide_eq_true (by omega)), bnd lb, hc, hE]; rfl
  ·rw [if_neg hkk] at hi
   have hnk : ¬ (1 ≤ f.Kind ∧ f.Kind ≤ 3) := by
    intro hh; apply hkk; unfold kidsK; rw [Bool.and_eq_true, decide_eq_true_eq, decide_eq_true_eq]; omega
   by_cases k7 : f.Kind = 7
   ·have hE : elF (n + 1) f = tx 135 f.Attr := by rw [elF, if_neg hkk, if_pos k7]
    rw [hE]
    constructor
    ·rw [F32, k7]; rfl
    ·rw [R60, k7]; rfl
   rw [if_neg k7] at hi
   by_cases k8 : f.Kind = 8
   ·rw [if_pos k8] at hi
    have hE : elF (n + 1) f = ls 164 (some [tx 4 f.Attr, ls 48 (rowE (flatF (subE (Sl.l f.Subs).length) 0 (Sl.l f.Subs)))]) := by rw [elF, if_neg hkk, if_neg k7, if_pos k8]
    have hsub : (Sl.l f.Subs).length ≤ 20 := by
     simp only [Bool.and_eq_true] at hi
     have := hi.2
     unfold partsS at this
     simp only [Bool.and_eq_true, decide_eq_true_eq] at this
     exact this.1.1.2
    have la := app_loop0 (Sl.l f.Subs) (subE (Sl.l f.Subs).length) (subE_len _) (F32_L3 (F32 k) k 164 f.Subs (Sl.len f.Subs) (Api_Element.mk 0 [] none) f) (by
     intro m i y acc hy ha
     have hi := lt_of hy
     rw [F32_L3, if_pos (decide_eq_true (by simp only [Sl.len]; omega)), bnd (at_of hy), show Sl.len f.Subs = (((Sl.l f.Subs).length : Nat) : Int) from rfl, bnd (subT_a hi (by omega)), ad_nat (by omega)]
     unfold subE
     by_cases hy0 : y = []
     ·subst hy0; rfl
     ·have e0 : (y == []) = false := by cases y with | nil => exact absurd rfl hy0 | cons a b => rfl
      rw [e0, if_pos (by rfl), bnd (show F13 k (subT (Sl.l f.Subs).length i) y = some (tx (subT (Sl.l f.Subs).length i) y) from rfl), bnd (app1 ha), if_neg hy0]
      rfl) (by
     intro m acc
     rw [F32_L3, if_neg (by simp [Sl.len])]) (n := k) (by omega) (by omega)
    have lb := app_loop0 (Sl.l f.Subs) (subE (Sl.l f.Subs).length) (subE_len _) (R60_L3 (R60 k) k (Api_Element.mk 0 [] none) f) (by
     intro m i y acc hy ha
     have hi := lt_of hy
     rw [R60_L3, if_pos (decide_eq_true (by simp only [Sl.len]; omega)), show Sl.len f.Subs = (((Sl.l f.Subs).length : Nat) : Int) from rfl, bnd (subT_a hi (by omega)), bnd (at_of hy), ad_nat (by omega)]
     unfold subE
     by_cases hy0 : y = []
     ·subst hy0; rfl
     ·have e0 : (y == []) = false := by cases y with | nil => exact absurd rfl hy0 | cons a b => rfl
      rw [e0, if_pos (by rfl), bnd (at_of hy), bnd (show F13 k (subT (Sl.l f.Subs).length i) y = some (tx (subT (Sl.l f.Subs).length i) y) from rfl), bnd (app1 ha), if_neg hy0]
      rfl) (by
     intro m acc
     rw [R60_L3, if_neg (by simp [Sl.len])]) (n := k) (by omega) (by omega)
    have e0 : Sl.at? (some [0, 160, 161, 162, 163, 165, 166, 135, 164]) f.Kind = some (164 : Int) := by rw [k8]; rfl
    rw [hE]
    constructor
    ·rw [F32, bnd e0, if_neg (by simp [k8]), bnd (show (if f.Kind == 1 then some (f.Kind == 1) else Option.bind (if f.Kind == 2 then some (f.Kind == 2) else some (f.Kind == 3)) fun y => some y) = some false by rw [k8]; rfl), if_neg (by simp), if_pos (by simp [k8]), bnd la]; rfl
    ·rw [R60, if_neg (by simp [k8]), if_neg (by simp [k8]), if_pos (by simp [k8]), bnd lb]; rfl
   ·rw [if_neg k8] at hi
    by_cases k456 : f.Kind = 4 ∨ f.Kind = 5 ∨ f.Kind = 6
    ·have hE : elF (n + 1) f = ls (if f.Kind = 4 then 163 else if f.Kind = 5 then 165 else 166) (some [tx 4 f.Attr, tx 4 f.Value]) := by rw [elF, if_neg hkk, if_neg k7, if_neg k8]
     have tb : ∀ t, R61 k t (some [f.Attr, f.Value]) = some (ls t (some [tx 4 f.Attr, tx 4 f.Value])) := fun t => texts_b k t (some [f.Attr, f.Value]) (by simp [Sl.l]) (by omega)
     rw [hE, F32, R60]
     rcases k456 with e | e | e <;> rw [e] <;> exact ⟨rfl, by first | exact tb _ | (rw [if_neg (by decide), if_neg (by decide), if_neg (by decide)]; simp [tb])⟩
    ·rw [if_neg k456] at hi; cases hi

end Go.Proofs.YtbinlabnilidiaaDoor.M
