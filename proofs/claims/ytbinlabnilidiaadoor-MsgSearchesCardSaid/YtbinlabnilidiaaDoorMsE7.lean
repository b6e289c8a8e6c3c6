/- Messages as elements: they are well formed, and not too great. -/
import Derived.Test.YtbinlabnilidiaaDoorMsE6
namespace Go.Proofs.YtbinlabnilidiaaDoor.M
open Go Go.Pam
set_option maxRecDepth 20000
set_option linter.unusedVariables false
set_option linter.unusedSimpArgs false

def primT (t : Int) : Bool := decide (bAnd .u8 t 31 ≠ 31) && decide (bAnd .u8 t 32 = 0)
def consT (t : Int) : Bool := decide (bAnd .u8 t 31 ≠ 31) && decide (bAnd .u8 t 32 ≠ 0)
structure Fine (m c : Nat) (e : El) : Prop where
 few : FewE m e
 fm : Fm m e
 sz : szS m e ≤ c
theorem Fine.up {m c d : Nat} {e : El} (h : Fine m c e) (hd : c ≤ d) : Fine m d e := ⟨h.few, h.fm, Nat.le_trans h.sz hd⟩
theorem fine_tx {m c : Nat} {t : Int} {s : Str} (ht : primT t = true) (hs : s.length ≤ c) (hc : c ≤ 5000) : Fine (m + 1) (4 + c) (tx t s) := by
 unfold primT at ht
 simp only [Bool.and_eq_true, decide_eq_true_eq] at ht
 refine ⟨⟨by simp [tx, Sl.l], by simp only [tx]; omega, fun x hx => by simp [tx, Sl.l] at hx⟩, ⟨ht.1, fun _ => rfl, fun h => absurd ht.2 h⟩, ?_⟩
 rw [szS_pos]
 have := (lenS_len (min ((tx t s).Body.length + ((Sl.l (tx t s).Kids).map (szS m)).sum) 4001)).1
 have h0 : (tx t s).Body.length + ((Sl.l (tx t s).Kids).map (szS m)).sum = s.length := by simp [tx, Sl.l]
 rw [h0] at this ⊢
 omega
theorem sum_le {α : Type} (f : α → Nat) (c : Nat) : ∀ (l : List α), (∀ x ∈ l, f x ≤ c) → (l.map f).sum ≤ c * l.length
 | [], _ => by simp
 | x :: l, h => by
  have := sum_le f c l (fun y hy => h y (List.mem_cons_of_mem _ hy))
  have := h x List.mem_cons_self
  rw [List.map_cons, List.sum_cons, List.length_cons, Nat.mul_succ]
  omega
theorem fine_ls' {m c : Nat} {t : Int} {l : Sl El} (ht : consT t = true) (hl : (Sl.l l).length ≤ 30) (hf : ∀ x ∈ Sl.l l, FewE m x ∧ Fm m x) (hs : ((Sl.l l).map (szS m)).sum ≤ c) : Fine (m + 1) (4 + c) (ls t l) := by
 unfold consT at ht
 simp only [Bool.and_eq_true, decide_eq_true_eq] at ht
 refine ⟨⟨hl, by simp [ls], fun x hx => (hf x hx).1⟩, ⟨ht.1, fun h => absurd h ht.2, fun _ => ⟨rfl, fun x hx => (hf x hx).2⟩⟩, ?_⟩
 rw [szS_pos]
 have := (lenS_len (min ((ls t l).Body.length + ((Sl.l (ls t l).Kids).map (szS m)).sum) 4001)).1
 have h0 : (ls t l).Body.length + ((Sl.l (ls t l).Kids).map (szS m)).sum = ((Sl.l l).map (szS m)).sum := by simp [ls]
 rw [h0] at this ⊢
 omega
theorem fine_ls {m c : Nat} {t : Int} {l : Sl El} (ht : consT t = true) (hl : (Sl.l l).length ≤ 30) (hf : ∀ x ∈ Sl.l l, Fine m c x) : Fine (m + 1) (4 + c * 30) (ls t l) := by
 refine fine_ls' ht hl (fun x hx => ⟨(hf x hx).few, (hf x hx).fm⟩) ?_
 refine Nat.le_trans (sum_le (szS m) c (Sl.l l) fun x hx => (hf x hx).sz) (Nat.mul_le_mul_left _ hl)
theorem fine_nm {m : Nat} {t v : Int} (ht : primT t = true) : Fine (m + 1) 9 (nm t v) := fine_tx ht (intS_len v).1 (by omega)
theorem fine_bl {m : Nat} (b : Bool) : Fine (m + 1) 5 (bl b) := fine_tx (t := 1) (s := if b = true then [255] else [0]) (c := 1) (by decide +kernel) (by cases b <;> simp) (by omega)

theorem p4 : primT 4 = true := by decide +kernel
theorem c48 : consT 48 = true := by decide +kernel
theorem c49 : consT 49 = true := by decide +kernel

/-! Filters -/
theorem cl_sum : ∀ (l : List Int) (x : Int), (∀ c ∈ l, 1 ≤ c) → cl l x ≤ 20 → cl l x = x + l.sum ∧ x + l.length ≤ 20
 | [], x, _, h => by simp [cl] at h ⊢; omega
 | c :: r, x, hc, h => by
  rw [cl] at h ⊢
  by_cases hx : x ≤ 20
  ·rw [if_pos hx] at h ⊢
   have h1 := hc c List.mem_cons_self
   obtain ⟨a, b⟩ := cl_sum r (x + c) (fun d hd => hc d (List.mem_cons_of_mem _ hd)) h
   rw [a, List.sum_cons, List.length_cons]
   constructor
   ·omega
   ·push_cast; omega
  ·rw [if_neg hx] at h; omega

theorem sum_el (n : Nat) (q : Fil → Nat) (c : Fil → Int) : ∀ (l : List Fil), (∀ f ∈ l, (q f : Int) ≤ 3000 * c f) → (((l.map q).sum : Nat) : Int) ≤ 3000 * (l.map c).sum
 | [], _ => by simp
 | f :: l, h => by
  have := sum_el n q c l (fun g hg => h g (List.mem_cons_of_mem _ hg))
  have := h f List.mem_cons_self
  rw [List.map_cons, List.sum_cons, List.map_cons, List.sum_cons]
  push_cast
  omega

theorem flat_mem {α : Type} {g : Nat → α → List El} : ∀ {i : Nat} {l : List α} {e : El}, e ∈ flatF g i l → ∃ j, ∃ s ∈ l, e ∈ g j s
 | i, x :: xs, e, h => by
  rw [flatF] at h
  rcases List.mem_append.1 h with h | h
  ·exact ⟨i, x, List.mem_cons_self, h⟩
  ·obtain ⟨j, s, hs, he⟩ := flat_mem h
   exact ⟨j, s, List.mem_cons_of_mem _ hs, he⟩
theorem flat_len2 {α : Type} {g : Nat → α → List El} (hg : ∀ i x, (g i x).length ≤ 1) : ∀ (i : Nat) (l : List α), (flatF g i l).length ≤ l.length
 | _, [] => by simp [flatF]
 | i, x :: xs => by
  rw [flatF, List.length_append, List.length_cons]
  have := flat_len2 hg (i + 1) xs
  have := hg i x
  omega

theorem fine_filter : ∀ (n : Nat) (f : Fil), fewP n f → isS n f = true → cS n f ≤ 20 → FewE (n + 4) (elF n f) ∧ Fm (n + 4) (elF n f) ∧ (szS (n + 4) (elF n f) : Int) ≤ 3000 * cS n f
 | 0, f, h, _, _ => h.elim
 | n + 1, f, h, hi, hc => by
  obtain ⟨h1, h2, h3, h4, h5, h6⟩ := h
  have hc0 := cS_range (n + 1) f
  rw [isS] at hi
  rw [elF]
  by_cases hkk : kidsK f.Kind = true
  ·rw [if_pos hkk] at hi ⊢
   simp only [Bool.and_eq_true, List.all_eq_true] at hi
   have hkids := hi.2
   have hr : f.Kind = 1 ∨ f.Kind = 2 ∨ f.Kind = 3 := by unfold kidsK at hkk; rw [Bool.and_eq_true, decide_eq_true_eq, decide_eq_true_eq] at hkk; omega
   rw [cS, if_pos hkk] at hc ⊢
   have hcl : cl ((Sl.l f.Kids).map (cS n)) 1 ≤ 20 := by unfold imin at hc; split at hc <;> omega
   obtain ⟨s1, s2⟩ := cl_sum _ 1 (fun c hc => by obtain ⟨g, _, rfl⟩ := List.mem_map.1 hc; exact (cS_range n g).1) hcl
   rw [List.length_map] at s2
   have e1 : imin (cl ((Sl.l f.Kids).map (cS n)) 1) 21 = 1 + ((Sl.l f.Kids).map (cS n)).sum := by unfold imin; split <;> omega
   rw [e1]
   have hmem : ∀ g ∈ Sl.l f.Kids, cS n g ≤ ((Sl.l f.Kids).map (cS n)).sum := by
    have aux : ∀ (l : List Fil) (g : Fil), g ∈ l → cS n g ≤ (l.map (cS n)).sum ∧ 0 ≤ (l.map (cS n)).sum := by
     intro l
     induction l with
     | nil => intro g hg; cases hg
     | cons y l ih =>
      intro g hg
      have hy := (cS_range n y).1
      rw [List.map_cons, List.sum_cons]
      have hnn : 0 ≤ (l.map (cS n)).sum := by
       cases l with
       | nil => simp
       | cons z l => exact (ih z List.mem_cons_self).2
      rcases List.mem_cons.1 hg with rfl | hg
      ·omega
      ·have := ih g hg; omega
    exact fun g hg => (aux _ g hg).1
   have ih := fun g hg => fine_filter n g (h6 g hg) (hkids g hg) (by have := hmem g hg; omega)
   have hsum := sum_el n (fun g => szS (n + 4) (elF n g)) (cS n) (Sl.l f.Kids) (fun g hg => (ih g hg).2.2)
   have ht : consT (159 + f.Kind) = true := by rcases hr with e | e | e <;> rw [e] <;> decide +kernel
   have hF := fine_ls' (m := n + 4) (t := 159 + f.Kind) (l := rowE ((Sl.l f.Kids).map (elF n))) (c := ((Sl.l f.Kids).map fun g => szS (n + 4) (elF n g)).sum) ht (by rw [rowE_l, List.length_map]; omega)
    (fun x hx => by
     rw [rowE_l] at hx
     obtain ⟨g, hg, rfl⟩ := List.mem_map.1 hx
     exact ⟨(ih g hg).1, (ih g hg).2.1⟩) (by rw [rowE_l, List.map_map]; exact Nat.le_refl _)
   refine ⟨hF.few, hF.fm, ?_⟩
   have := hF.sz
   rw [show n + 1 + 4 = n + 4 + 1 by omega]
   omega
  ·rw [if_neg hkk] at hi ⊢
   have hcc : cS (n + 1) f = 1 := by rw [cS, if_neg hkk]
   rw [hcc]
   have fin : ∀ {e : El}, Fine (n + 1 + 4) 3000 e → FewE (n + 1 + 4) e ∧ Fm (n + 1 + 4) e ∧ (szS (n + 1 + 4) e : Int) ≤ 3000 * 1 := fun h => ⟨h.few, h.fm, by have := h.sz; omega⟩
   have tyl : isTy f.Attr = true → f.Attr.length ≤ 16 := by
    intro h
    unfold isTy at h
    cases hA : f.Attr with
    | nil => simp
    | cons c r =>
     rw [hA] at h
     simp only [Bool.and_eq_true, decide_eq_true_eq] at h
     simp; omega
   by_cases k7 : f.Kind = 7
   ·rw [if_pos k7] at hi ⊢
    simp only [Bool.and_eq_true] at hi
    exact fin ((fine_tx (t := 135) (s := f.Attr) (c := 16) (by decide +kernel) (tyl hi.1.1.1) (by omega)).up (by omega))
   rw [if_neg k7] at hi ⊢
   by_cases k8 : f.Kind = 8
   ·rw [if_pos k8] at hi ⊢
    simp only [Bool.and_eq_true] at hi
    have hp := hi.2
    unfold partsS at hp
    simp only [Bool.and_eq_true, decide_eq_true_eq] at hp
    have hlen := hp.1.1.2
    have hall := hp.2
    have sub : ∀ x ∈ flatF (subE (Sl.l f.Subs).length) 0 (Sl.l f.Subs), Fine (n + 3) 64 x := by
     intro x hx
     obtain ⟨j, s, hs, he⟩ := flat_mem hx
     unfold subE at he
     split at he
     ·cases he
     ·rw [List.mem_singleton] at he
      subst he
      obtain ⟨j', hj'⟩ := allFrom_mem hall s hs
      unfold partOk at hj'
      simp only [Bool.not_eq_true', Bool.or_eq_false_iff, decide_eq_false_iff_not] at hj'
      refine fine_tx (m := n + 2) (c := 60) ?_ (by omega) (by omega)
      unfold subT
      split
      ·decide +kernel
      ·split <;> decide +kernel
    have fo1 : Fine (n + 4) 20 (tx 4 f.Attr) := fine_tx p4 (tyl hi.1.1.1) (by omega)
    have fo2 : Fine (n + 4) (4 + 64 * 30) (ls 48 (rowE (flatF (subE (Sl.l f.Subs).length) 0 (Sl.l f.Subs)))) :=
     fine_ls (m := n + 3) c48 (by rw [rowE_l]; have := flat_len2 (subE_len (Sl.l f.Subs).length) 0 (Sl.l f.Subs); omega) (fun x hx => sub x (by rwa [rowE_l] at hx))
    refine fin ((fine_ls' (m := n + 4) (c := 20 + (4 + 64 * 30)) (by decide +kernel) (by simp [Sl.l]) (fun x hx => ?_) ?_).up (by omega))
    ·simp only [Sl.l, Option.getD_some, List.mem_cons, List.not_mem_nil, or_false] at hx
     rcases hx with rfl | rfl
     ·exact ⟨fo1.few, fo1.fm⟩
     ·exact ⟨fo2.few, fo2.fm⟩
    ·have a := fo1.sz; have b := fo2.sz
     show szS (n + 4) _ + (szS (n + 4) _ + 0) ≤ _
     omega
   ·rw [if_neg k8] at hi ⊢
    by_cases k456 : f.Kind = 4 ∨ f.Kind = 5 ∨ f.Kind = 6
    ·rw [if_pos k456] at hi
     simp only [Bool.and_eq_true, decide_eq_true_eq] at hi
     have ha : f.Attr.length ≤ 16 := tyl hi.1.1.1
     have hv : f.Value.length ≤ 60 := hi.1.1.2
     refine fin ((fine_ls (m := n + 4) (c := 64) ?_ (by simp [Sl.l]) (fun x hx => ?_)).up (by omega))
     ·split
      ·decide +kernel
      ·split <;> decide +kernel
     ·simp only [Sl.l, Option.getD_some, List.mem_cons, List.not_mem_nil, or_false] at hx
      rcases hx with rfl | rfl
      ·exact fine_tx p4 (show f.Attr.length ≤ 60 by omega) (by omega)
      ·exact fine_tx p4 hv (by omega)
    ·rw [if_neg k456] at hi; cases hi

end Go.Proofs.YtbinlabnilidiaaDoor.M
