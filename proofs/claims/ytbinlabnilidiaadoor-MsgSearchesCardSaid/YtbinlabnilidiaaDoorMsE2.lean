/- Elements of messages: their size. -/
import Derived.Test.YtbinlabnilidiaaDoorMsE1
namespace Go.Proofs.YtbinlabnilidiaaDoor.M
open Go Go.Pam
set_option maxRecDepth 20000
set_option linter.unusedVariables false
set_option linter.unusedSimpArgs false

def szS : Nat → El → Nat
 | 0, _ => 0
 | m + 1, e => let t := e.Body.length + ((Sl.l e.Kids).map (szS m)).sum; 1 + (lenS (min t 4001)).length + t

theorem szS_pos (m : Nat) (e : El) : szS (m + 1) e = 1 + (lenS (min (e.Body.length + ((Sl.l e.Kids).map (szS m)).sum) 4001)).length + (e.Body.length + ((Sl.l e.Kids).map (szS m)).sum) := rfl

theorem len52 (k : Nat) (n : Nat) (hn : n ≤ 4001) : F35 k n = some (lenS n) := by
 by_cases h : n ≤ 4000
 ·exact (show F35 k n = F35 (k + 9) n from rfl).trans (len_ok (k + 9) n (by omega) h).1
 ·obtain rfl : n = 4001 := by omega
  rfl

theorem sz_loop (m k : Nat) (e : El) (ih : ∀ x ∈ Sl.l e.Kids, F16 k x = some ((szS m x : Nat) : Int)) (hl : (Sl.l e.Kids).length ≤ 30) : ∀ (j fuel i acc : Nat), i + j = (Sl.l e.Kids).length → j < fuel →
  acc + (((Sl.l e.Kids).drop i).map (szS m)).sum < 4611686018427387904 →
  ∃ q : Int, F16_L0 (F16 k) k e.Kids (Sl.len e.Kids) fuel (acc : Int) (i : Int) = some (((acc + (((Sl.l e.Kids).drop i).map (szS m)).sum : Nat) : Int), q) := by
 intro j
 induction j with
 | zero =>
  intro fuel i acc h1 h2 h3
  obtain ⟨f, rfl⟩ : ∃ f, fuel = f + 1 := ⟨fuel - 1, by omega⟩
  rw [List.drop_eq_nil_of_le (by omega), F16_L0, if_neg (by simp [Sl.len_nat]; omega)]
  exact ⟨_, by simp; rfl⟩
 | succ j ihj =>
  intro fuel i acc h1 h2 h3
  obtain ⟨f, rfl⟩ : ∃ f, fuel = f + 1 := ⟨fuel - 1, by omega⟩
  have hlt : i < (Sl.l e.Kids).length := by omega
  have e1 : Sl.at? e.Kids (i : Int) = some (Sl.l e.Kids)[i] := by rw [Sl.at?_nat, List.getElem?_eq_getElem hlt]
  rw [drop_cons hlt, List.map_cons, List.sum_cons] at h3 ⊢
  have e2 : ad .i64 (acc : Int) ((szS m (Sl.l e.Kids)[i] : Nat) : Int) = ((acc + szS m (Sl.l e.Kids)[i] : Nat) : Int) := by rw [ad64 (by omega)]; omega
  obtain ⟨q, hq⟩ := ihj f (i + 1) (acc + szS m (Sl.l e.Kids)[i]) (by omega) (by omega) (by omega)
  refine ⟨q, ?_⟩
  rw [F16_L0, if_pos (by simp [Sl.len_nat]; omega), bnd e1, bnd (ih _ (List.getElem_mem hlt)), e2, ad_nat (by omega), hq]
  rw [Nat.add_assoc]

theorem sum_le_of_mem {α : Type} (f : α → Nat) : ∀ {l : List α} {x : α}, x ∈ l → f x ≤ (l.map f).sum
 | y :: l, x, h => by
  rw [List.map_cons, List.sum_cons]
  rcases List.mem_cons.1 h with rfl | h
  ·omega
  ·have := sum_le_of_mem f h; omega

theorem sz_ok : ∀ (m k : Nat), m + 50 ≤ k → ∀ e : El, FewE m e → szS m e < 4611686018427387904 → F16 k e = some ((szS m e : Nat) : Int)
 | 0, k, hk, e, h, _ => h.elim
 | m + 1, k, hk, e, h, hs => by
  obtain ⟨k, rfl⟩ : ∃ j, k = j + 1 := ⟨k - 1, by omega⟩
  rw [szS_pos] at hs
  obtain ⟨q, hq⟩ := sz_loop m k e (fun x hx => sz_ok m k (by omega) x (h.2.2 x hx) (by have := sum_le_of_mem (szS m) hx; omega)) h.1 (Sl.l e.Kids).length k 0 e.Body.length (by omega) (by have := h.1; omega) (by rw [List.drop_zero]; omega)
  rw [List.drop_zero] at hq
  have hq' : F16_L0 (F16 k) k e.Kids (Sl.len e.Kids) k (Str.len e.Body) 0 = _ := hq
  rw [F16, bnd hq', szS_pos]
  generalize ht : e.Body.length + ((Sl.l e.Kids).map (szS m)).sum = t at *
  have hm : imin ((t : Nat) : Int) 4001 = ((min t 4001 : Nat) : Int) := by unfold imin; split <;> omega
  simp only [hm]
  have hL := (lenS_len (min t 4001)).1
  rw [bnd (len52 k (min t 4001) (by omega))]
  rw [Str.len_nat, ad64 (x := 1) (by omega), ad64 (by omega)]
  simp

theorem cat_sz {m : Nat} : ∀ (l : List El) (acc : Str), (∀ x ∈ l, match bytesS m x with | some b => szS m x = b.length | none => 4000 < szS m x) →
  match cat (bytesS m) acc l with
  | some b => acc.length + (l.map (szS m)).sum = b.length
  | none => 4000 < (l.map (szS m)).sum
 | [], acc, _ => by simp [cat]
 | x :: l, acc, ih => by
  have h := ih x List.mem_cons_self
  simp only [cat, List.map_cons, List.sum_cons]
  cases hb : bytesS m x with
  | none =>
   rw [hb] at h
   simp only at h ⊢
   omega
  | some b =>
   rw [hb] at h
   have h2 := cat_sz l (acc ++ b) (fun y hy => ih y (List.mem_cons_of_mem _ hy))
   simp only at h h2 ⊢
   cases hc : cat (bytesS m) (acc ++ b) l with
   | none =>
    rw [hc] at h2
    simp only at h2 ⊢
    omega
   | some c =>
    rw [hc] at h2
    simp only [List.length_append] at h2 ⊢
    omega

theorem bytes_sz : ∀ (m : Nat) (x : El), FewE m x → match bytesS m x with | some b => szS m x = b.length | none => 4000 < szS m x
 | 0, x, h => h.elim
 | m + 1, x, hf => by
  have h := cat_sz (Sl.l x.Kids) x.Body (fun y hy => bytes_sz m y (hf.2.2 y hy))
  rw [bytesS, szS_pos]
  cases hc : cat (bytesS m) x.Body (Sl.l x.Kids) with
  | none =>
   rw [hc] at h
   simp only at h ⊢
   omega
  | some b =>
   rw [hc] at h
   simp only at h ⊢
   by_cases hb : b.length ≤ 4000
   ·rw [if_pos hb]
    simp only
    rw [h, Nat.min_eq_left (by omega)]
    simp; omega
   ·rw [if_neg hb]
    simp only
    omega

end Go.Proofs.YtbinlabnilidiaaDoor.M
