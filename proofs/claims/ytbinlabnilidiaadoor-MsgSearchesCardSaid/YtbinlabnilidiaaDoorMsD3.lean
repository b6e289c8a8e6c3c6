/- Messages: what is read of an element: filters, messages. -/
import Derived.Test.YtbinlabnilidiaaDoorMsD2
namespace Go.Proofs.YtbinlabnilidiaaDoor.M
open Go Go.Pam
set_option maxRecDepth 20000
set_option linter.unusedVariables false
set_option linter.unusedSimpArgs false

theorem f59L (rc : El → Int → Option Fil) (k : Nat) (left : Int) (hleft : -100 ≤ left ∧ left ≤ 100) (K : Sl El) (fo0 : Fil) (gs : List Fil) (hg : All2 (fun e g => rc e (left - 1) = some g) (Sl.l K) gs) (kd : Int) (at' vl : Str) (sb' : Sl Str) (hlK : (Sl.l K).length ≤ 200000) :
  ∀ (j n i : Nat) (acc : List Fil), i + j = (Sl.l K).length → j < n → acc.length + j ≤ 200000 →
  F59_L1 rc k left K (Sl.len K) fo0 n (i : Int) ⟨kd, at', vl, sb', row acc⟩ = some ((((Sl.l K).length : Nat) : Int), ⟨kd, at', vl, sb', row (acc ++ gs.drop i)⟩)
 | j, 0, i, acc, _, h, _ => by omega
 | 0, n + 1, i, acc, hij, _, _ => by
  have hl := hg.len
  have : i = (Sl.l K).length := by omega
  subst this
  rw [F59_L1, if_neg (by simp [Sl.len]), List.drop_eq_nil_of_le (by omega), List.append_nil]
 | j + 1, n + 1, i, acc, hij, hn, ha => by
  have hl := hg.len
  have hi : i < (Sl.l K).length := by omega
  have e1 : Sl.at? K (i : Int) = some (Sl.l K)[i] := by rw [Sl.at?_nat, List.getElem?_eq_getElem hi]
  have e2 := hg.get i hi (by omega)
  have e3 : sb .i64 left 1 = left - 1 := sb64 (by omega)
  rw [F59_L1, if_pos (decide_eq_true (by simp only [Sl.len]; omega)), bnd e1, e3, bnd e2]
  simp only
  rw [bnd (app_row (by omega) (by omega)), ad_nat (by omega), f59L rc k left hleft K fo0 gs hg kd at' vl sb' hlK j n (i + 1) _ (by omega) (by omega) (by simp only [List.length_append, List.length_singleton]; omega), List.drop_eq_getElem_cons (show i < gs.length by omega)]
  simp only [List.append_assoc, List.singleton_append]

theorem f59K {n k m j : Nat} {l : Int} (IH : ∀ g, isS n g = true → fewP n g → ∀ e, Eqv m (elF n g) e → Dpt j (elF n g) → ∃ f', F59 k e l = some f' ∧ nF n f' = nF n g) : ∀ (fl : List Fil) (el : List El), (∀ g ∈ fl, isS n g = true ∧ fewP n g ∧ Dpt j (elF n g)) →
  All2 (Eqv m) (fl.map (elF n)) el → ∃ gs, All2 (fun e g => F59 k e l = some g) el gs ∧ gs.map (nF n) = fl.map (nF n)
 | [], [], _, _ => ⟨[], trivial, rfl⟩
 | g :: fl, e :: el, h, h2 => by
  obtain ⟨q1, q2, q3⟩ := h g List.mem_cons_self
  obtain ⟨f', a1, a2⟩ := IH g q1 q2 e h2.1 q3
  obtain ⟨gs, b1, b2⟩ := f59K IH fl el (fun g hg => h g (List.mem_cons_of_mem _ hg)) h2.2
  exact ⟨f' :: gs, ⟨a1, b1⟩, by simp only [List.map_cons, a2, b2]⟩
 | [], e :: el, _, h2 => h2.elim
 | g :: fl, [], _, h2 => h2.elim

theorem len0_nil {α : Type} {x : Sl α} (h : (Sl.l x).length = 0) : Sl.l x = [] := List.eq_nil_of_length_eq_zero h

theorem f59 : ∀ (n : Nat) (f : Fil), isS n f = true → fewP n f → ∀ (k m j : Nat) (left : Int) (e : El), Eqv m (elF n f) e → Dpt j (elF n f) → (j : Int) ≤ left → left ≤ 100 → n + 200100 ≤ k →
  ∃ f', F59 k e left = some f' ∧ nF n f' = nF n f
 | 0, f, h, _, _, _, _, _, _, _, _, _, _, _ => by simp [isS] at h
 | n + 1, f, h, hw, k, m, j, left, e, he, hd, hj, hl, hk => by
  obtain ⟨k, rfl⟩ : ∃ q, k = q + 1 := ⟨k - 1, by omega⟩
  obtain ⟨m, rfl⟩ : ∃ q, m = q + 1 := by cases m with
   | zero => exact he.elim
   | succ q => exact ⟨q, rfl⟩
  obtain ⟨j, rfl⟩ : ∃ q, j = q + 1 := by cases j with
   | zero => exact hd.elim
   | succ q => exact ⟨q, rfl⟩
  have hz : (left == 0) = false := by simp only [beq_eq_false_iff_ne]; omega
  have hT := eqv_tag he
  by_cases hK : kidsK f.Kind = true
  ·rw [isS, if_pos hK] at h
   simp only [Bool.and_eq_true, beq_iff_eq, decide_eq_true_eq, List.all_eq_true] at h
   obtain ⟨⟨⟨⟨a1, a2⟩, a3⟩, a4⟩, a5⟩ := h
   have hel : elF (n + 1) f = ls (159 + f.Kind) (rowE ((Sl.l f.Kids).map (elF n))) := by rw [elF, if_pos hK]
   rw [hel] at he hd hT
   have hT : e.Tag = 159 + f.Kind := hT
   have h1 : All2 (Eqv m) ((Sl.l f.Kids).map (elF n)) (Sl.l e.Kids) := by
    have := he.2.2
    rwa [show (ls (159 + f.Kind) (rowE ((Sl.l f.Kids).map (elF n)))).Kids = rowE ((Sl.l f.Kids).map (elF n)) from rfl, rowE_l] at this
   have hlen := h1.len
   rw [List.length_map] at hlen
   have hd2 : ∀ g ∈ Sl.l f.Kids, Dpt j (elF n g) := fun g hg => hd _ (by
    show elF n g ∈ Sl.l (rowE ((Sl.l f.Kids).map (elF n)))
    rw [rowE_l]
    exact List.mem_map_of_mem hg)
   obtain ⟨gs, g1, g2⟩ := f59K (k := k) (m := m) (j := j) (l := left - 1) (fun g hg hgw e he hd => f59 n g hg hgw k m j (left - 1) e he hd (by omega) (by omega) (by omega)) (Sl.l f.Kids) (Sl.l e.Kids) (fun g hg => ⟨a5 g hg, hw.2.2.2.2.2 g hg, hd2 g hg⟩) h1
   have hw1 := hw.1
   have L := f59L (F59 k) k left (by omega) e.Kids ⟨0, [], [], none, none⟩ gs g1 f.Kind [] [] none (by omega) (Sl.l e.Kids).length k 0 [] (by omega) (by omega) (by simp only [List.length_nil]; omega)
   rw [show ((0 : Nat) : Int) = 0 from rfl, List.drop_zero, List.nil_append] at L
   have L : F59_L1 (F59 k) k left e.Kids (Sl.len e.Kids) (Api_Filter.mk 0 [] [] none none) k 0 (Api_Filter.mk f.Kind [] [] none none) = some ((((Sl.l e.Kids).length : Nat) : Int), ⟨f.Kind, [], [], none, row gs⟩) := L
   refine ⟨⟨f.Kind, [], [], none, row gs⟩, ?_, ?_⟩
   ·have hk3 : f.Kind = 1 ∨ f.Kind = 2 ∨ f.Kind = 3 := by unfold kidsK at hK; simp only [Bool.and_eq_true, decide_eq_true_eq] at hK; omega
    rw [F59, hT, hz]
    rcases hk3 with e1 | e1 | e1 <;> rw [e1] at L ⊢
    ·show Option.bind (Option.bind (F59_L1 (F59 k) k left e.Kids (Sl.len e.Kids) (Api_Filter.mk 0 [] [] none none) k 0 (Api_Filter.mk 1 [] [] none none)) fun y646 => some y646.2) (fun y => some y) = _
     rw [bnd L]; rfl
    ·show Option.bind (Option.bind (F59_L1 (F59 k) k left e.Kids (Sl.len e.Kids) (Api_Filter.mk 0 [] [] none none) k 0 (Api_Filter.mk 2 [] [] none none)) fun y646 => some y646.2) (fun y => some y) = _
     rw [bnd L]; rfl
    ·show Option.bind (Option.bind (F59_L1 (F59 k) k left e.Kids (Sl.len e.Kids) (Api_Filter.mk 0 [] [] none none) k 0 (Api_Filter.mk 3 [] [] none none)) fun y646 => some y646.2) (fun y => some y) = _
     rw [bnd L]; rfl
   ·simp only [nF, row_l, g2, a1, a2, len0_nil a3]
    rfl
  ·rw [isS, if_neg hK] at h
   by_cases h7 : f.Kind = 7
   ·rw [if_pos h7] at h
    simp only [Bool.and_eq_true, beq_iff_eq, decide_eq_true_eq] at h
    obtain ⟨⟨⟨a1, a2⟩, a3⟩, a4⟩ := h
    have hel : elF (n + 1) f = tx 135 f.Attr := by rw [elF, if_neg hK, if_pos h7]
    rw [hel] at he hT
    have hT : e.Tag = 135 := hT
    refine ⟨⟨7, f.Attr, [], none, none⟩, ?_, ?_⟩
    ·rw [F59, hT, eqv_body he]; rfl
    ·simp only [nF, h7, a2, len0_nil a3, len0_nil a4]; rfl
   ·rw [if_neg h7] at h
    by_cases h8 : f.Kind = 8
    ·rw [if_pos h8] at h
     simp only [Bool.and_eq_true, beq_iff_eq, decide_eq_true_eq] at h
     obtain ⟨⟨⟨a1, a2⟩, a3⟩, a4⟩ := h
     have hel : elF (n + 1) f = ls 164 (some [tx 4 f.Attr, ls 48 (rowE (flatF (subE (Sl.l f.Subs).length) 0 (Sl.l f.Subs)))]) := by rw [elF, if_neg hK, if_neg h7, if_pos h8]
     rw [hel] at he hT
     have hT : e.Tag = 164 := hT
     have k0 := eqv_kids he 0 (by show 0 < 2; omega)
     have k1 := eqv_kids he 1 (by show 1 < 2; omega)
     have k1 : Eqv m (ls 48 (rowE (flatF (subE (Sl.l f.Subs).length) 0 (Sl.l f.Subs)))) (kidS e 1) := k1
     obtain ⟨m, rfl⟩ : ∃ q, m = q + 1 := by cases m with
      | zero => exact k1.elim
      | succ q => exact ⟨q, rfl⟩
     refine ⟨⟨8, f.Attr, [], some (Sl.l f.Subs), none⟩, ?_, ?_⟩
     ·rw [F59, hT, hz]
      show Option.bind (Option.bind (Option.bind (F55 k e 0) fun y666 => Option.bind (F55 k e 1) fun y667 => Option.bind (F74 k y667) fun y668 => some (Api_Filter.mk 8 y666.Body [] y668 none)) fun y => some y) (fun y => some y) = _
      rw [bnd (show F55 k e 0 = some (kidS e 0) from f55 k e 0), bnd (show F55 k e 1 = some (kidS e 1) from f55 k e 1), bnd (f74 (by omega) a4 k1), eqv_body k0]
      rfl
     ·simp only [nF, h8, a2, len0_nil a3]; rfl
    ·rw [if_neg h8] at h
     by_cases h4 : f.Kind = 4 ∨ f.Kind = 5 ∨ f.Kind = 6
     ·rw [if_pos h4] at h
      simp only [Bool.and_eq_true, decide_eq_true_eq] at h
      obtain ⟨⟨⟨a1, a2⟩, a3⟩, a4⟩ := h
      have hel : elF (n + 1) f = ls (if f.Kind = 4 then 163 else if f.Kind = 5 then 165 else 166) (some [tx 4 f.Attr, tx 4 f.Value]) := by rw [elF, if_neg hK, if_neg h7, if_neg h8]
      rw [hel] at he hT
      have hT : e.Tag = (if f.Kind = 4 then 163 else if f.Kind = 5 then 165 else 166) := hT
      have k0 := eqv_kids he 0 (by show 0 < 2; omega)
      have k1 := eqv_kids he 1 (by show 1 < 2; omega)
      refine ⟨⟨f.Kind, f.Attr, f.Value, none, none⟩, ?_, ?_⟩
      ·have fin : ∀ q : Int, (Option.bind (Option.bind (Option.bind (F55 k e 0) fun y669 => Option.bind (F55 k e 1) fun y670 => some (Api_Filter.mk q y669.Body y670.Body none none)) fun y => some y) fun y => some y) = some ⟨q, f.Attr, f.Value, none, none⟩ := by
        intro q
        rw [bnd (show F55 k e 0 = some (kidS e 0) from f55 k e 0), bnd (show F55 k e 1 = some (kidS e 1) from f55 k e 1), eqv_body k0, eqv_body k1]
        rfl
       rw [F59, hT, hz]
       rcases h4 with e1 | e1 | e1 <;> rw [e1]
       ·exact fin 4
       ·exact fin 5
       ·exact fin 6
      ·simp only [nF, len0_nil a3, len0_nil a4]; rfl
     ·rw [if_neg h4] at h; cases h
end Go.Proofs.YtbinlabnilidiaaDoor.M
