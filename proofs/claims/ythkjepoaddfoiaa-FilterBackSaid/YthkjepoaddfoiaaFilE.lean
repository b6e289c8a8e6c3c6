/- Filters: the text of one. -/
import Derived.Test.YthkjepoaddfoiaaFilD
namespace Go.Proofs.Ythkjepoaddfoiaa.M
open Go Go.Pam
set_option maxRecDepth 20000
set_option linter.unusedVariables false
set_option linter.unusedSimpArgs false

def signK (n : Int) : Str := if n = 1 then [38] else if n = 2 then [124] else [33]
def signI (n : Int) : Str := if n = 5 then [62, 61] else if n = 6 then [60, 61] else [61]
def prS : Nat → Fil → Str
 | 0, _ => []
 | n + 1, f =>
  if kidsK f.Kind = true then [40] ++ signK f.Kind ++ ((Sl.l f.Kids).flatMap (prS n)) ++ [41]
  else if f.Kind = 7 then [40] ++ f.Attr ++ [61, 42, 41]
  else if f.Kind = 8 then [40] ++ f.Attr ++ [61] ++ Lib.join ((Sl.l f.Subs).map escS) [42] ++ [41]
  else [40] ++ f.Attr ++ signI f.Kind ++ escS f.Value ++ [41]

/-! How long -/
theorem cl_sum : ∀ (l : List Int) (x : Int), (∀ c ∈ l, 1 ≤ c) → cl l x ≤ 20 → cl l x = x + l.sum
 | [], x, _, _ => by simp [cl]
 | c :: r, x, h, hle => by
  simp only [cl] at hle ⊢
  split
  ·rename_i hx
   rw [if_pos hx] at hle
   rw [cl_sum r (x + c) (fun c' hc => h c' (List.mem_cons_of_mem _ hc)) hle, List.sum_cons]
   omega
  ·rename_i hx
   rw [if_neg hx] at hle
   omega

theorem sum_ge : ∀ (l : List Int), (∀ c ∈ l, 1 ≤ c) → 0 ≤ l.sum ∧ ∀ c ∈ l, c ≤ l.sum
 | [], _ => by simp
 | c :: r, h => by
  have ih := sum_ge r (fun c' hc => h c' (List.mem_cons_of_mem _ hc))
  have h0 := h c List.mem_cons_self
  rw [List.sum_cons]
  refine ⟨by omega, fun c' hc => ?_⟩
  rcases List.mem_cons.1 hc with rfl | hc
  ·omega
  ·have := ih.2 c' hc; omega

theorem joinTail_len : ∀ (l : List Str) (m : Nat), (∀ s ∈ l, s.length ≤ m) → (Lib.joinTail [42] l).length ≤ l.length * (m + 1)
 | [], m, _ => by simp [Lib.joinTail]
 | x :: r, m, h => by
  have ih := joinTail_len r m (fun s hs => h s (List.mem_cons_of_mem _ hs))
  have h0 := h x List.mem_cons_self
  simp only [Lib.joinTail, List.map_cons, List.flatten_cons, List.length_append, List.length_cons, List.length_nil] at ih ⊢
  rw [Nat.add_mul]
  omega

theorem join_len (l : List Str) (m : Nat) (h : ∀ s ∈ l, s.length ≤ m) : (Lib.join l [42]).length ≤ l.length * (m + 1) := by
 cases l with
 | nil => simp [Lib.join_nil]
 | cons x r =>
  rw [Lib.join_cons, List.length_append]
  have := joinTail_len r m (fun s hs => h s (List.mem_cons_of_mem _ hs))
  have := h x List.mem_cons_self
  simp only [List.length_cons]
  rw [Nat.add_mul]
  omega

theorem kids_of {n : Nat} {f : Fil} (hk : kidsK f.Kind = true) (hi : isS (n + 1) f = true) (hc : cS (n + 1) f ≤ 20) : (∀ g ∈ Sl.l f.Kids, isS n g = true ∧ cS n g ≤ 20) ∧ ((Sl.l f.Kids).map (cS n)).sum + 1 = cS (n + 1) f := by
 simp only [isS, hk, if_true, Bool.and_eq_true, List.all_eq_true] at hi
 simp only [cS, hk, if_true] at hc ⊢
 have h1 : ∀ c ∈ (Sl.l f.Kids).map (cS n), 1 ≤ c := fun c hc => by obtain ⟨g, _, rfl⟩ := List.mem_map.1 hc; exact (cS_range n g).1
 have hcl : cl ((Sl.l f.Kids).map (cS n)) 1 ≤ 20 := by unfold imin at hc; split at hc <;> omega
 have hsum := cl_sum _ _ h1 hcl
 have hge := sum_ge _ h1
 have he : imin (cl ((Sl.l f.Kids).map (cS n)) 1) 21 = cl ((Sl.l f.Kids).map (cS n)) 1 := by unfold imin; split <;> omega
 rw [he]
 refine ⟨fun g hg => ⟨hi.2 g hg, ?_⟩, by omega⟩
 have := hge.2 (cS n g) (List.mem_map_of_mem hg)
 omega

theorem isTy_len {s : Str} (h : isTy s = true) : s.length ≤ 16 := by
 cases s with
 | nil => simp
 | cons c r =>
  simp only [isTy, Bool.and_eq_true, decide_eq_true_eq] at h
  simp only [List.length_cons]; omega

theorem parts_len {l : List Str} (h : partsS l = true) : l.length ≤ 20 ∧ ∀ s ∈ l, s.length ≤ 60 := by
 simp only [partsS, Bool.and_eq_true, decide_eq_true_eq] at h
 refine ⟨h.1.1.2, fun s hs => ?_⟩
 obtain ⟨j, hj⟩ := allFrom_mem h.2 s hs
 simp only [partOk, Bool.not_eq_true', Bool.or_eq_false_iff, decide_eq_false_iff_not] at hj
 omega

theorem flatMap_le : ∀ (l : List Fil) (p : Fil → Str) (c : Fil → Int), (∀ g ∈ l, ((p g).length : Int) ≤ 7000 * c g) → ((l.flatMap p).length : Int) ≤ 7000 * (l.map c).sum
 | [], p, c, _ => by simp
 | g :: r, p, c, h => by
  have ih := flatMap_le r p c (fun x hx => h x (List.mem_cons_of_mem _ hx))
  have h0 := h g List.mem_cons_self
  simp only [List.flatMap_cons, List.length_append, List.map_cons, List.sum_cons]
  omega

theorem leaf {n : Nat} {f : Fil} (hk : ¬ kidsK f.Kind = true) (hi : isS (n + 1) f = true) : f.Attr.length ≤ 16 ∧ (Sl.l f.Kids).length = 0 ∧ 4 ≤ f.Kind ∧ f.Kind ≤ 8 ∧ (f.Kind = 8 → partsS (Sl.l f.Subs) = true) ∧ (f.Kind = 4 ∨ f.Kind = 5 ∨ f.Kind = 6 → f.Value.length ≤ 60) := by
 simp only [isS, if_neg hk] at hi
 by_cases k7 : f.Kind = 7
 ·rw [if_pos k7] at hi
  simp only [Bool.and_eq_true, decide_eq_true_eq] at hi
  exact ⟨isTy_len hi.1.1.1, hi.2, by omega, by omega, fun h => by omega, fun h => by omega⟩
 ·rw [if_neg k7] at hi
  by_cases k8 : f.Kind = 8
  ·rw [if_pos k8] at hi
   simp only [Bool.and_eq_true, decide_eq_true_eq] at hi
   exact ⟨isTy_len hi.1.1.1, hi.1.2, by omega, by omega, fun _ => hi.2, fun h => by omega⟩
  ·rw [if_neg k8] at hi
   by_cases k4 : f.Kind = 4 ∨ f.Kind = 5 ∨ f.Kind = 6
   ·rw [if_pos k4] at hi
    simp only [Bool.and_eq_true, decide_eq_true_eq] at hi
    exact ⟨isTy_len hi.1.1.1, hi.2, by omega, by omega, fun h => by omega, fun _ => hi.1.1.2⟩
   ·rw [if_neg k4] at hi; cases hi

theorem sign_len (n : Int) : (signK n).length = 1 ∧ (signI n).length ≤ 2 := by
 constructor
 ·unfold signK; split
  ·rfl
  ·split <;> rfl
 ·unfold signI; split
  ·simp
  ·split <;> simp

theorem prS_len : ∀ (n : Nat) (f : Fil), isS n f = true → cS n f ≤ 20 → ((prS n f).length : Int) ≤ 7000 * cS n f
 | 0, f, h, _ => by cases h
 | n + 1, f, hi, hc => by
  by_cases hk : kidsK f.Kind = true
  ·obtain ⟨h1, h2⟩ := kids_of hk hi hc
   have := flatMap_le (Sl.l f.Kids) (prS n) (cS n) (fun g hg => prS_len n g (h1 g hg).1 (h1 g hg).2)
   have hs := (sign_len f.Kind).1
   simp only [prS, hk, if_true, List.length_append, List.length_cons, List.length_nil]
   omega
  ·obtain ⟨l1, l2, l3, l4, l5, l6⟩ := leaf hk hi
   have hc1 : cS (n + 1) f = 1 := by simp only [cS]; rw [if_neg hk]
   rw [hc1]
   simp only [prS, if_neg hk]
   by_cases k7 : f.Kind = 7
   ·rw [if_pos k7]; simp only [List.length_append, List.length_cons, List.length_nil]; omega
   ·rw [if_neg k7]
    by_cases k8 : f.Kind = 8
    ·rw [if_pos k8]
     obtain ⟨p1, p2⟩ := parts_len (l5 k8)
     have hj := join_len ((Sl.l f.Subs).map escS) 180 (fun s hs => by
      obtain ⟨t, ht, rfl⟩ := List.mem_map.1 hs
      have := escS_len t; have := p2 t ht; omega)
     rw [List.length_map] at hj
     have : (Sl.l f.Subs).length * (180 + 1) ≤ 20 * 181 := Nat.mul_le_mul p1 (Nat.le_refl _)
     simp only [List.length_append, List.length_cons, List.length_nil]; omega
    ·rw [if_neg k8]
     have := escS_len f.Value
     have := l6 (by omega)
     have hs := (sign_len f.Kind).2
     simp only [List.length_append, List.length_cons, List.length_nil]; omega

/-! The two printers -/
theorem f24L1 (rc : Fil → Option Str) (p : Fil → Str) (k : Nat) (f : Fil) (hq : ∀ g ∈ Sl.l f.Kids, rc g = some (p g)) (hl : (Sl.l f.Kids).length ≤ 200000) :
  ∀ (j n i : Nat) (w : Str), i + j = (Sl.l f.Kids).length → j < n → w.length + (((Sl.l f.Kids).drop i).flatMap p).length ≤ 1000000 → ∃ q, F24_L1 rc k f.Kids (Sl.len f.Kids) f n (i : Int) w = some (q, w ++ ((Sl.l f.Kids).drop i).flatMap p)
 | j, 0, i, w, _, h, _ => by omega
 | 0, n + 1, i, w, hij, _, _ => by
  have : i = (Sl.l f.Kids).length := by omega
  subst this
  rw [F24_L1, if_neg (by simp [Sl.len])]
  exact ⟨(((Sl.l f.Kids).length : Nat) : Int), by simp⟩
 | j + 1, n + 1, i, w, hij, hn, hw => by
  have hi : i < (Sl.l f.Kids).length := by omega
  have hd : (Sl.l f.Kids).drop i = (Sl.l f.Kids)[i] :: (Sl.l f.Kids).drop (i + 1) := List.drop_eq_getElem_cons hi
  rw [hd, List.flatMap_cons, List.length_append] at hw
  obtain ⟨q, hq'⟩ := f24L1 rc p k f hq hl j n (i + 1) (w ++ p (Sl.l f.Kids)[i]) (by omega) (by omega) (by rw [List.length_append]; omega)
  refine ⟨q, ?_⟩
  rw [F24_L1, if_pos (decide_eq_true (by simp only [Sl.len]; omega)), bnd (at_of (List.getElem?_eq_getElem hi)), bnd (hq _ (List.getElem_mem hi)), bnd (put_ok (by omega)), ad_nat (by omega), hq', hd, List.flatMap_cons, List.append_assoc]

theorem f11L0 (rc : Fil → Option Str) (p : Fil → Str) (k : Nat) (f : Fil) (hq : ∀ g ∈ Sl.l f.Kids, rc g = some (p g)) (hl : (Sl.l f.Kids).length ≤ 200000) :
  ∀ (j n i : Nat) (w : Str), i + j = (Sl.l f.Kids).length → j < n → w.length + (((Sl.l f.Kids).drop i).flatMap p).length ≤ 1000000 → ∃ q, F11_L0 rc k f n w (i : Int) = some (w ++ ((Sl.l f.Kids).drop i).flatMap p, q)
 | j, 0, i, w, _, h, _ => by omega
 | 0, n + 1, i, w, hij, _, _ => by
  have : i = (Sl.l f.Kids).length := by omega
  subst this
  rw [F11_L0, if_neg (by simp [Sl.len])]
  exact ⟨(((Sl.l f.Kids).length : Nat) : Int), by simp⟩
 | j + 1, n + 1, i, w, hij, hn, hw => by
  have hi : i < (Sl.l f.Kids).length := by omega
  have hd : (Sl.l f.Kids).drop i = (Sl.l f.Kids)[i] :: (Sl.l f.Kids).drop (i + 1) := List.drop_eq_getElem_cons hi
  rw [hd, List.flatMap_cons, List.length_append] at hw
  obtain ⟨q, hq'⟩ := f11L0 rc p k f hq hl j n (i + 1) (w ++ p (Sl.l f.Kids)[i]) (by omega) (by omega) (by rw [List.length_append]; omega)
  refine ⟨q, ?_⟩
  rw [F11_L0, if_pos (decide_eq_true (by simp only [Sl.len]; omega)), bnd (at_of (List.getElem?_eq_getElem hi)), bnd (hq _ (List.getElem_mem hi)), bnd (app_ok (by omega)), ad_nat (by omega), hq', hd, List.flatMap_cons, List.append_assoc]

theorem f24L3 (rc : Fil → Option Str) (k : Nat) (x : Sl Str) (f : Fil) (h1 : (Sl.l x).length ≤ 24) (h2 : ∀ s ∈ Sl.l x, s.length ≤ 80) (hk : 100 ≤ k) :
  ∀ (j n i : Nat) (z : Sl Str), i + j = (Sl.l x).length → j < n → (Sl.l z).length = i → ∃ q z', F24_L3 rc k x (Sl.len x) f n z (i : Int) = some (z', q) ∧ Sl.l z' = Sl.l z ++ ((Sl.l x).drop i).map escS
 | j, 0, i, z, _, h, _ => by omega
 | 0, n + 1, i, z, hij, _, hz => by
  have : i = (Sl.l x).length := by omega
  subst this
  rw [F24_L3, if_neg (by simp [Sl.len])]
  exact ⟨(((Sl.l x).length : Nat) : Int), z, rfl, by simp⟩
 | j + 1, n + 1, i, z, hij, hn, hz => by
  have hi : i < (Sl.l x).length := by omega
  have hd : (Sl.l x).drop i = (Sl.l x)[i] :: (Sl.l x).drop (i + 1) := List.drop_eq_getElem_cons hi
  have hs := h2 _ (List.getElem_mem hi)
  obtain ⟨z1, a1, a2⟩ := Sl.app?_l (α := Str) (bytes := 16) (x := z) (ys := [escS (Sl.l x)[i]]) (by simp; omega)
  obtain ⟨q, z', b1, b2⟩ := f24L3 rc k x f h1 h2 hk j n (i + 1) z1 (by omega) (by omega) (by rw [a2]; simp; omega)
  refine ⟨q, z', ?_, ?_⟩
  ·rw [F24_L3, if_pos (decide_eq_true (by simp only [Sl.len]; omega)), bnd (at_of (List.getElem?_eq_getElem hi)), bnd (f37 _ (by omega) (by omega)), Sl.l_some, bnd a1, ad_nat (by omega)]
   exact b1
  ·rw [b2, a2, hd, List.map_cons, List.append_assoc]; rfl

theorem f11L3 (rc : Fil → Option Str) (k : Nat) (f : Fil) (h1 : (Sl.l f.Subs).length ≤ 24) (h2 : ∀ s ∈ Sl.l f.Subs, s.length ≤ 80) (hk : 100 ≤ k) :
  ∀ (j n i : Nat) (w : Str), i + j = (Sl.l f.Subs).length → j < n → 0 < i → w.length + 300 * j ≤ 1000000 → ∃ q, F11_L3 rc k f n w (i : Int) = some (w ++ Lib.joinTail [42] (((Sl.l f.Subs).drop i).map escS), q)
 | j, 0, i, w, _, h, _, _ => by omega
 | 0, n + 1, i, w, hij, _, _, _ => by
  have : i = (Sl.l f.Subs).length := by omega
  subst this
  rw [F11_L3, if_neg (by simp [Sl.len])]
  exact ⟨(((Sl.l f.Subs).length : Nat) : Int), by simp [Lib.joinTail]⟩
 | j + 1, n + 1, i, w, hij, hn, h0, hw => by
  have hi : i < (Sl.l f.Subs).length := by omega
  have hd : (Sl.l f.Subs).drop i = (Sl.l f.Subs)[i] :: (Sl.l f.Subs).drop (i + 1) := List.drop_eq_getElem_cons hi
  have hs := h2 _ (List.getElem_mem hi)
  have he := escS_len (Sl.l f.Subs)[i]
  obtain ⟨q, hq⟩ := f11L3 rc k f h1 h2 hk j n (i + 1) (w ++ [42] ++ escS (Sl.l f.Subs)[i]) (by omega) (by omega) (by omega) (by simp only [List.length_append, List.length_cons, List.length_nil]; omega)
  refine ⟨q, ?_⟩
  have ha : Str.app? w [42] = some (w ++ [42]) := app_ok (by simp; omega)
  have hb : Str.app? (w ++ [42]) (escS (Sl.l f.Subs)[i]) = some (w ++ [42] ++ escS (Sl.l f.Subs)[i]) := app_ok (by simp only [List.length_append, List.length_cons, List.length_nil]; omega)
  rw [F11_L3, if_pos (decide_eq_true (by simp only [Sl.len]; omega)), if_pos (decide_eq_true (by omega)), bnd ha]
  simp only [Option.bind_some]
  rw [bnd (at_of (List.getElem?_eq_getElem hi)), bnd (f22 _ (by omega) (by omega)), bnd hb, ad_nat (by omega), hq, hd, List.map_cons]
  have hj : ∀ (a : Str) (r : List Str), Lib.joinTail [42] (a :: r) = [42] ++ a ++ Lib.joinTail [42] r := fun _ _ => rfl
  rw [hj]
  simp only [List.append_assoc]

theorem f11J (rc : Fil → Option Str) (k : Nat) (f : Fil) (h1 : (Sl.l f.Subs).length ≤ 24) (h2 : ∀ s ∈ Sl.l f.Subs, s.length ≤ 80) (hk : 100 ≤ k) : ∃ q, F11_L3 rc k f k [] 0 = some (Lib.join ((Sl.l f.Subs).map escS) [42], q) := by
 obtain ⟨k', rfl⟩ : ∃ k', k = k' + 1 := ⟨k - 1, by omega⟩
 cases hl : Sl.l f.Subs with
 | nil =>
  rw [F11_L3, if_neg (by simp [Sl.len, hl])]
  exact ⟨0, rfl⟩
 | cons s r =>
  have h0 : (Sl.l f.Subs)[0]? = some s := by rw [hl]; rfl
  have hs := h2 s (by rw [hl]; exact List.mem_cons_self)
  have he := escS_len s
  have hlen : (Sl.l f.Subs).length = r.length + 1 := by rw [hl]; rfl
  obtain ⟨q, hq⟩ := f11L3 rc (k' + 1) f h1 h2 hk r.length k' 1 ([] ++ escS s) (by omega) (by omega) (by omega) (by simp only [List.nil_append]; omega)
  refine ⟨q, ?_⟩
  have hb : Str.app? [] (escS s) = some ([] ++ escS s) := app_ok (by simp; omega)
  have hat : Sl.at? f.Subs 0 = some s := at_of h0
  rw [F11_L3, if_pos (decide_eq_true (by simp only [Sl.len]; omega)), if_neg (by simp)]
  simp only [Option.bind_some]
  rw [bnd hat, bnd (f22 _ (by omega) (by omega)), bnd hb]
  have hq' : F11_L3 rc (k' + 1) f k' ([] ++ escS s) (ad .i64 0 1) = _ := hq
  rw [hq', List.map_cons, Lib.join_cons, hl]
  rfl

theorem f24 : ∀ (n k : Nat) (f : Fil), fewP n f → isS n f = true → cS n f ≤ 20 → n + 200110 ≤ k → k < 1000000 → F24 k f = some (prS n f)
 | 0, k, f, h, _, _, _, _ => h.elim
 | n + 1, 0, f, _, _, _, hk, _ => by omega
 | n + 1, k + 1, f, h, hi, hc, hk, hk2 => by
  obtain ⟨h1, h2, h3, h4, h5, h6⟩ := h
  have hpl := prS_len (n + 1) f hi hc
  have hcr := cS_range (n + 1) f
  rw [F24]
  simp only [prS] at hpl ⊢
  by_cases hkk : kidsK f.Kind = true
  ·rw [if_pos hkk] at hpl ⊢
   obtain ⟨g1, _⟩ := kids_of hkk hi hc
   have hs := (sign_len f.Kind).1
   simp only [List.length_append, List.length_cons, List.length_nil, hs] at hpl
   obtain ⟨q, hq⟩ := f24L1 (F24 k) (prS n) k f (fun g hg => f24 n k g (h6 g hg) (g1 g hg).1 (g1 g hg).2 (by omega) (by omega)) h1 (Sl.l f.Kids).length k 0 [] (by omega) (by omega) (by rw [List.drop_zero]; simp only [List.length_nil]; omega)
   rw [List.drop_zero, List.nil_append] at hq
   have hq' : F24_L1 (F24 k) k f.Kids (Sl.len f.Kids) f k 0 [] = some (q, (Sl.l f.Kids).flatMap (prS n)) := hq
   have hr : 1 ≤ f.Kind ∧ f.Kind ≤ 3 := by
    simp only [kidsK, Bool.and_eq_true, decide_eq_true_eq] at hkk; omega
   have hsg : Sl.at? (some [[], [38], [124], [33]]) f.Kind = some (signK f.Kind) := by
    have : f.Kind = 1 ∨ f.Kind = 2 ∨ f.Kind = 3 := by omega
    rcases this with e | e | e <;> rw [e] <;> rfl
   have hcond : (Option.bind (if f.Kind == 1 then some (f.Kind == 1) else Option.bind (if f.Kind == 2 then some (f.Kind == 2) else some (f.Kind == 3)) fun y719 => some y719) fun y => some y) = some true := by
    have : f.Kind = 1 ∨ f.Kind = 2 ∨ f.Kind = 3 := by omega
    rcases this with e | e | e <;> rw [e] <;> rfl
   have hcond' : (if f.Kind == 1 then some (f.Kind == 1) else Option.bind (if f.Kind == 2 then some (f.Kind == 2) else some (f.Kind == 3)) fun y719 => some y719) = some true := by
    have : f.Kind = 1 ∨ f.Kind = 2 ∨ f.Kind = 3 := by omega
    rcases this with e | e | e <;> rw [e] <;> rfl
   have b1 : Str.app? [40] (signK f.Kind) = some ([40] ++ signK f.Kind) := app_ok (by simp [hs])
   have b2 : Str.app? ([40] ++ signK f.Kind) ((Sl.l f.Kids).flatMap (prS n)) = some ([40] ++ signK f.Kind ++ (Sl.l f.Kids).flatMap (prS n)) := app_ok (by simp only [List.length_append, List.length_cons, List.length_nil, hs]; omega)
   have b3 : Str.app? ([40] ++ signK f.Kind ++ (Sl.l f.Kids).flatMap (prS n)) [41] = some ([40] ++ signK f.Kind ++ (Sl.l f.Kids).flatMap (prS n) ++ [41]) := app_ok (by simp only [List.length_append, List.length_cons, List.length_nil, hs]; omega)
   rw [bnd hcond', if_pos rfl, bnd hq', bnd hsg, bnd b1, bnd b2, bnd b3]
  ·rw [if_neg hkk] at hpl ⊢
   obtain ⟨l1, l2, l3, l4, l5, l6⟩ := leaf hkk hi
   have hcond' : (if f.Kind == 1 then some (f.Kind == 1) else Option.bind (if f.Kind == 2 then some (f.Kind == 2) else some (f.Kind == 3)) fun y719 => some y719) = some false := by
    have e1 : (f.Kind == 1) = false := by simp; omega
    have e2 : (f.Kind == 2) = false := by simp; omega
    have e3 : (f.Kind == 3) = false := by simp; omega
    rw [e1, e2, e3]; rfl
   rw [bnd hcond', if_neg (by simp)]
   have b0 : Str.app? [40] f.Attr = some ([40] ++ f.Attr) := app_ok (by simp; omega)
   by_cases k7 : f.Kind = 7
   ·rw [if_pos (show (f.Kind == 7) = true by simp [k7]), if_pos k7, bnd b0, bnd (app_ok (by simp; omega))]
   ·rw [if_neg (show ¬ (f.Kind == 7) = true by simp [k7]), if_neg k7]
    rw [if_neg k7] at hpl
    by_cases k8 : f.Kind = 8
    ·rw [if_pos (show (f.Kind == 8) = true by simp [k8]), if_pos k8]
     rw [if_pos k8] at hpl
     obtain ⟨q, z', c1, c2⟩ := f24L3 (F24 k) k f.Subs f (by have := (parts_len (l5 k8)).1; omega) (fun s hs => by have := (parts_len (l5 k8)).2 s hs; omega) (by omega) (Sl.l f.Subs).length k 0 none (by omega) (by omega) rfl
     have c1' : F24_L3 (F24 k) k f.Subs (Sl.len f.Subs) f k none 0 = some (z', q) := c1
     rw [Sl.l_none, List.nil_append, List.drop_zero] at c2
     simp only [List.length_append, List.length_cons, List.length_nil] at hpl
     have hj : Sl.join? z' [42] = some (Lib.join ((Sl.l f.Subs).map escS) [42]) := by
      unfold Sl.join?
      rw [c2, if_pos ⟨by rw [List.length_map]; have := (parts_len (l5 k8)).1; omega, by omega⟩]
     have b1 : Str.app? ([40] ++ f.Attr) [61] = some ([40] ++ f.Attr ++ [61]) := app_ok (by simp; omega)
     have b2 : Str.app? ([40] ++ f.Attr ++ [61]) (Lib.join ((Sl.l f.Subs).map escS) [42]) = some ([40] ++ f.Attr ++ [61] ++ Lib.join ((Sl.l f.Subs).map escS) [42]) := app_ok (by simp only [List.length_append, List.length_cons, List.length_nil]; omega)
     have b3 : Str.app? ([40] ++ f.Attr ++ [61] ++ Lib.join ((Sl.l f.Subs).map escS) [42]) [41] = some ([40] ++ f.Attr ++ [61] ++ Lib.join ((Sl.l f.Subs).map escS) [42] ++ [41]) := app_ok (by simp only [List.length_append, List.length_cons, List.length_nil]; omega)
     rw [bnd c1', bnd b0, bnd b1, bnd hj, bnd b2, bnd b3]
    ·rw [if_neg (show ¬ (f.Kind == 8) = true by simp [k8]), if_neg k8]
     have hsg : Sl.at? (some [[], [], [], [], [61], [62, 61], [60, 61]]) f.Kind = some (signI f.Kind) := by
      have : f.Kind = 4 ∨ f.Kind = 5 ∨ f.Kind = 6 := by omega
      rcases this with e | e | e <;> rw [e] <;> rfl
     have hs := (sign_len f.Kind).2
     have hv := l6 (by omega)
     have he := escS_len f.Value
     have b1 : Str.app? ([40] ++ f.Attr) (signI f.Kind) = some ([40] ++ f.Attr ++ signI f.Kind) := app_ok (by simp only [List.length_append, List.length_cons, List.length_nil]; omega)
     have b2 : Str.app? ([40] ++ f.Attr ++ signI f.Kind) (escS f.Value) = some ([40] ++ f.Attr ++ signI f.Kind ++ escS f.Value) := app_ok (by simp only [List.length_append, List.length_cons, List.length_nil]; omega)
     have b3 : Str.app? ([40] ++ f.Attr ++ signI f.Kind ++ escS f.Value) [41] = some ([40] ++ f.Attr ++ signI f.Kind ++ escS f.Value ++ [41]) := app_ok (by simp only [List.length_append, List.length_cons, List.length_nil]; omega)
     rw [bnd hsg, bnd b0, bnd b1, bnd (f37 _ (by omega) (by omega)), bnd b2, bnd b3]

theorem f11 : ∀ (n k : Nat) (f : Fil), fewP n f → isS n f = true → cS n f ≤ 20 → n + 200110 ≤ k → k < 1000000 → F11 k f = some (prS n f)
 | 0, k, f, h, _, _, _, _ => h.elim
 | n + 1, 0, f, _, _, _, hk, _ => by omega
 | n + 1, k + 1, f, h, hi, hc, hk, hk2 => by
  obtain ⟨h1, h2, h3, h4, h5, h6⟩ := h
  have hpl := prS_len (n + 1) f hi hc
  have hcr := cS_range (n + 1) f
  rw [F11]
  simp only [prS] at hpl ⊢
  by_cases hkk : kidsK f.Kind = true
  ·rw [if_pos hkk] at hpl ⊢
   obtain ⟨g1, _⟩ := kids_of hkk hi hc
   have hs := (sign_len f.Kind).1
   simp only [List.length_append, List.length_cons, List.length_nil, hs] at hpl
   obtain ⟨q, hq⟩ := f11L0 (F11 k) (prS n) k f (fun g hg => f11 n k g (h6 g hg) (g1 g hg).1 (g1 g hg).2 (by omega) (by omega)) h1 (Sl.l f.Kids).length k 0 [] (by omega) (by omega) (by rw [List.drop_zero]; simp only [List.length_nil]; omega)
   rw [List.drop_zero, List.nil_append] at hq
   have hq' : F11_L0 (F11 k) k f k [] 0 = some ((Sl.l f.Kids).flatMap (prS n), q) := hq
   have hr : 1 ≤ f.Kind ∧ f.Kind ≤ 3 := by
    simp only [kidsK, Bool.and_eq_true, decide_eq_true_eq] at hkk; omega
   rw [bnd hq']
   have fin : ∀ c : UInt8, (Option.bind (Str.app? [40, c] ((Sl.l f.Kids).flatMap (prS n))) fun z => Option.bind (Str.app? z [41]) fun z2 => some z2) = some ([40] ++ [c] ++ (Sl.l f.Kids).flatMap (prS n) ++ [41]) := fun c => by
    have b2 : Str.app? [40, c] ((Sl.l f.Kids).flatMap (prS n)) = some ([40, c] ++ (Sl.l f.Kids).flatMap (prS n)) := app_ok (by simp only [List.length_cons, List.length_nil]; omega)
    rw [bnd b2, bnd (app_ok (by simp only [List.length_append, List.length_cons, List.length_nil]; omega))]
    rfl
   have : f.Kind = 1 ∨ f.Kind = 2 ∨ f.Kind = 3 := by omega
   rcases this with e | e | e
   ·rw [if_pos (show (f.Kind == 1) = true by simp [e])]; simp only; rw [fin 38, e]; rfl
   ·rw [if_neg (show ¬ (f.Kind == 1) = true by simp [e]), if_pos (show (f.Kind == 2) = true by simp [e])]; simp only; rw [fin 124, e]; rfl
   ·rw [if_neg (show ¬ (f.Kind == 1) = true by simp [e]), if_neg (show ¬ (f.Kind == 2) = true by simp [e]), if_pos (show (f.Kind == 3) = true by simp [e])]; simp only; rw [fin 33, e]; rfl
  ·rw [if_neg hkk] at hpl ⊢
   obtain ⟨l1, l2, l3, l4, l5, l6⟩ := leaf hkk hi
   obtain ⟨k', rfl⟩ : ∃ k', k = k' + 1 := ⟨k - 1, by omega⟩
   have hq' : F11_L0 (F11 (k' + 1)) (k' + 1) f (k' + 1) [] 0 = some ([], 0) := by
    rw [F11_L0, if_neg (by simp [Sl.len, l2])]
   have b0 : Str.app? [40] f.Attr = some ([40] ++ f.Attr) := app_ok (by simp; omega)
   rw [bnd hq', if_neg (show ¬ (f.Kind == 1) = true by simp; omega), if_neg (show ¬ (f.Kind == 2) = true by simp; omega), if_neg (show ¬ (f.Kind == 3) = true by simp; omega)]
   have he := escS_len f.Value
   have val : f.Value.length ≤ 60 → ∀ sg : Str, sg.length ≤ 2 → (Option.bind (Str.app? ([40] ++ f.Attr) sg) fun z => Option.bind (F22 (k' + 1) f.Value) fun y => Option.bind (Str.app? z y) fun z2 => Option.bind (Str.app? z2 [41]) fun z3 => some z3) = some ([40] ++ f.Attr ++ sg ++ escS f.Value ++ [41]) := fun hv sg hs => by
    have b1 : Str.app? ([40] ++ f.Attr) sg = some ([40] ++ f.Attr ++ sg) := app_ok (by simp only [List.length_append, List.length_cons, List.length_nil]; omega)
    have b2 : Str.app? ([40] ++ f.Attr ++ sg) (escS f.Value) = some ([40] ++ f.Attr ++ sg ++ escS f.Value) := app_ok (by simp only [List.length_append, List.length_cons, List.length_nil]; omega)
    have b3 : Str.app? ([40] ++ f.Attr ++ sg ++ escS f.Value) [41] = some ([40] ++ f.Attr ++ sg ++ escS f.Value ++ [41]) := app_ok (by simp only [List.length_append, List.length_cons, List.length_nil]; omega)
    rw [bnd b1, bnd (f22 _ (by omega) (by omega)), bnd b2, bnd b3]
   by_cases k5 : f.Kind = 5
   ·rw [if_pos (show (f.Kind == 5) = true by simp [k5]), bnd b0, if_neg (show ¬ f.Kind = 7 by omega), if_neg (show ¬ f.Kind = 8 by omega), val (l6 (by omega)) [62, 61] (by simp), k5]; rfl
   ·rw [if_neg (show ¬ (f.Kind == 5) = true by simp [k5])]
    by_cases k6 : f.Kind = 6
    ·rw [if_pos (show (f.Kind == 6) = true by simp [k6]), bnd b0, if_neg (show ¬ f.Kind = 7 by omega), if_neg (show ¬ f.Kind = 8 by omega), val (l6 (by omega)) [60, 61] (by simp), k6]; rfl
    ·rw [if_neg (show ¬ (f.Kind == 6) = true by simp [k6])]
     by_cases k7 : f.Kind = 7
     ·rw [if_pos (show (f.Kind == 7) = true by simp [k7]), if_pos k7, bnd b0, bnd (app_ok (by simp; omega))]
     ·rw [if_neg (show ¬ (f.Kind == 7) = true by simp [k7]), if_neg k7]
      rw [if_neg k7] at hpl
      by_cases k8 : f.Kind = 8
      ·rw [if_pos (show (f.Kind == 8) = true by simp [k8]), if_pos k8]
       rw [if_pos k8] at hpl
       simp only [List.length_append, List.length_cons, List.length_nil] at hpl
       obtain ⟨q, c1⟩ := f11J (F11 (k' + 1)) (k' + 1) f (by have := (parts_len (l5 k8)).1; omega) (fun s hs => by have := (parts_len (l5 k8)).2 s hs; omega) (by omega)
       have b1 : Str.app? ([40] ++ f.Attr) [61] = some ([40] ++ f.Attr ++ [61]) := app_ok (by simp; omega)
       have b2 : Str.app? ([40] ++ f.Attr ++ [61]) (Lib.join ((Sl.l f.Subs).map escS) [42]) = some ([40] ++ f.Attr ++ [61] ++ Lib.join ((Sl.l f.Subs).map escS) [42]) := app_ok (by simp only [List.length_append, List.length_cons, List.length_nil]; omega)
       have b3 : Str.app? ([40] ++ f.Attr ++ [61] ++ Lib.join ((Sl.l f.Subs).map escS) [42]) [41] = some ([40] ++ f.Attr ++ [61] ++ Lib.join ((Sl.l f.Subs).map escS) [42] ++ [41]) := app_ok (by simp only [List.length_append, List.length_cons, List.length_nil]; omega)
       rw [bnd c1, bnd b0, bnd b1, bnd b2, bnd b3]
      ·rw [if_neg (show ¬ (f.Kind == 8) = true by simp [k8]), if_neg k8, bnd b0, val (l6 (by omega)) [61] (by simp)]
       have : f.Kind = 4 := by omega
       rw [this]; rfl
end Go.Proofs.Ythkjepoaddfoiaa.M
