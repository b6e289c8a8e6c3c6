/- strings.Builder: what each of its methods does to the store and to the memory. -/
import Derived.Test.YthkjepoaddfoiaaPam34
import Derived.Maps.AppendAt
import Derived.Lib.FrozenHead
import Derived.Lib.FrozenHead2
import Derived.Lib.UnsafeStr
namespace Go.Pam
open Go.RowKit
set_option linter.unusedSimpArgs false
set_option linter.unusedVariables false

variable {S : List SObj} {w w' : World} {g : G} {base : Nat} {bd : Nat → Nat}

theorem R.touch (h : R S w g base bd) {id : Nat} {o o' : SObj} (hs : S[id]? = some o) (ho : o ≠ .dead) (hobj : g.obj id = true) (hfx : ¬ g.fix (g.loc id)) (hpp : g.pp (g.loc id) = 0)
    (hoth : ∀ k, k < w.heap.size → k ≠ g.loc id → w'.heap[k]? = w.heap[k]?) (hsz : w.heap.size ≤ w'.heap.size) (hos : w'.os = w.os) (htp : w'.tape = w.tape) (hout : w'.output = w.output)
    (hl : Evo (lim base bd S.length id) g w g w' → Live w' g (lim base bd S.length id) id o') (n : Nat) (hn : n ≤ S.length) :
    R (S.set id o') w' g base bd ∧ Evo n g w g w' := by
  have evo : ∀ m, m ≤ S.length → Evo m g w g w' := fun m hm => by
    refine ⟨fun _ => Nat.le_refl _, fun b o hb => ?_, fun _ _ => rfl, fun _ _ _ => rfl, fun _ _ => rfl, fun _ _ => Nat.le_refl _, fun _ _ _ => rfl, fun k cap hk hob _ ht => ?_, hsz, rfl, fun k hk => hoth k (h.hfix k hk) (by rintro rfl; exact hfx hk), fun _ _ => rfl, hos, htp, hout⟩
    · have hb' : b < w.heap.size := by
        rcases Nat.lt_or_ge b w.heap.size with hb' | hb'
        · exact hb'
        · have := h.hpp b hb'; omega
      exact cell?_of_heap (hoth b hb' (by rintro rfl; omega)) o
    · obtain ⟨q, hq⟩ : ∃ q, S[k]? = some q := ⟨_, List.getElem?_eq_getElem (show k < S.length by omega)⟩
      have hd : q ≠ .dead := by rintro rfl; have := h.live k _ hq; simp [Live, hob] at this
      have hne : g.loc k ≠ g.loc id := fun e => by have := h.inj k id q o hq hs hd ho e; subst this; rw [hob] at hobj; cases hobj
      exact TipC.heap (g := g) rfl rfl rfl rfl (hoth _ ht.lt hne) ht
  refine ⟨⟨by simpa using h.hbase, h.hbd, fun k hk => by have := h.hfix k hk; omega, fun b hb => h.hpp b (by omega), ?_, ?_⟩, evo n hn⟩
  · intro k q hk
    rw [List.length_set]
    by_cases hki : k = id
    · subst hki
      rw [List.getElem?_set_self (R.lt h hs)] at hk
      injection hk with hk; subst hk
      exact hl (evo _ (lim_le h k))
    · rw [List.getElem?_set_ne (Ne.symm hki)] at hk
      exact (h.live k q hk).evo (evo _ (lim_le h k)) rfl rfl rfl rfl (fun hd _ => ⟨hoth _ ((h.live k q hk).loc_lt hd) (fun e => hki (h.inj k id q o hk hs hd ho e)), rfl⟩)
  · intro i k q p hi hk hq hp hloc
    have aux : ∀ (m : Nat) (q : SObj), (S.set id o')[m]? = some q → q ≠ .dead → ∃ q', S[m]? = some q' ∧ q' ≠ .dead := by
      intro m q hm hq
      by_cases hmi : m = id
      · subst hmi; exact ⟨_, hs, ho⟩
      · rw [List.getElem?_set_ne (Ne.symm hmi)] at hm; exact ⟨q, hm, hq⟩
    obtain ⟨o1, h1, h2⟩ := aux i q hi hq
    obtain ⟨p', h3, h4⟩ := aux k p hk hp
    exact h.inj i k o1 p' h1 h3 h2 h4 hloc

def noBuf (S : List SObj) : Option (Nat × Nat) → List SObj
  | none => S
  | some (j, _) => S.set j .dead

theorem noBuf_len (S : List SObj) (b : Option (Nat × Nat)) : (noBuf S b).length = S.length := by
  cases b with
  | none => rfl
  | some p => obtain ⟨j, n⟩ := p; simp [noBuf]

theorem R.bldPut (h : R S w g 0 bd) {i : Nat} {T t : TypeId} {u : Bool} {b : Option (Nat × Nat)} (hs : S[i]? = some (.bld T u b)) (hb : ∀ j n, b = some (j, n) → ∃ bs t0, S[j]? = some (.buf bs t0))
    {q cap : Nat} {bs' : List UInt8} {cur' : Array Value} (hne : bs' ≠ [])
    (hoth : ∀ k, k < w.heap.size → k ≠ g.loc i → (∀ j n, b = some (j, n) → k ≠ g.loc j) → w'.heap[k]? = w.heap[k]?)
    (hbox : w'.heap[g.loc i]? = some (.cells #[.pointer (some ⟨g.loc i, 0, none⟩), .slice (some ⟨q, 0, none⟩) bs'.length cap] T (0, 0)))
    (hrow : w'.heap[q]? = some (.cells cur' t (0, 0))) (hcs : cur'.size = cap) (hcm : cap ≤ maxLen) (hn : bs'.length ≤ cap)
    (htk : cur'.toList.take bs'.length = bs'.map fun b => .int .u8 b.toNat) (hq : (∃ j n, b = some (j, n) ∧ q = g.loc j) ∨ w.heap.size ≤ q)
    (hsz : w.heap.size ≤ w'.heap.size) (hos : w'.os = w.os) (htp : w'.tape = w.tape) (hout : w'.output = w.output) :
    R (((noBuf S b).set i (.bld T true (some (S.length, bs'.length)))) ++ [.buf bs' t]) w' (g.new S.length q 0 cap 0 true) 0 bd ∧ Evo S.length g w (g.new S.length q 0 cap 0 true) w' := by
  have li := h.live i _ hs
  obtain ⟨i1, i2, i3, i4, i5⟩ := li
  have hilt := R.lt h hs
  have lj : ∀ j n, b = some (j, n) → j < S.length ∧ g.obj j = true ∧ ¬ g.fix (g.loc j) ∧ g.pp (g.loc j) = 0 ∧ g.loc j < w.heap.size ∧ j ≠ i := fun j n hj => by
    obtain ⟨bs, t0, hsj⟩ := hb j n hj
    have l := h.live j _ hsj
    have := l.loc_lt (by simp)
    obtain ⟨j1, j2, j3, _⟩ := l
    exact ⟨R.lt h hsj, j1, j2, j3, this, by rintro rfl; rw [hs] at hsj; cases hsj⟩
  have injI : ∀ k o, S[k]? = some o → o ≠ .dead → k ≠ i → g.loc k ≠ g.loc i := fun k o hk hd hne e => hne (h.inj k i o _ hk hs hd (by simp) e)
  have injJ : ∀ k o, S[k]? = some o → o ≠ .dead → ∀ j n, b = some (j, n) → k ≠ j → g.loc k ≠ g.loc j := fun k o hk hd j n hj hne e => by
    obtain ⟨bs, t0, hsj⟩ := hb j n hj
    exact hne (h.inj k j o _ hk hsj hd (by simp) e)
  have ppq : g.pp q = 0 := by
    rcases hq with ⟨j, n, hj, rfl⟩ | hq
    · exact (lj j n hj).2.2.2.1
    · exact h.hpp q hq
  have hnew : ∀ k, k ≠ S.length → (g.new S.length q 0 cap 0 true).loc k = g.loc k ∧ (g.new S.length q 0 cap 0 true).hw k = g.hw k ∧ (g.new S.length q 0 cap 0 true).tsz k = g.tsz k ∧ (g.new S.length q 0 cap 0 true).obj k = g.obj k := fun k hk => by
    simp [G.new, hk]
  have hpp' : ∀ k, (g.new S.length q 0 cap 0 true).pp k = g.pp k := fun k => by
    simp only [G.new]; split
    · subst_vars; exact ppq.symm
    · rfl
  have nL : (g.new S.length q 0 cap 0 true).loc S.length = q ∧ (g.new S.length q 0 cap 0 true).hw S.length = cap ∧ (g.new S.length q 0 cap 0 true).obj S.length = true := by simp [G.new]
  have evo : Evo S.length g w (g.new S.length q 0 cap 0 true) w' := by
    refine ⟨fun k => by rw [hpp' k]; exact Nat.le_refl _, fun k o ho => ?_, fun k hk => (hnew k (by omega)).2.2.2, fun k hk _ => (hnew k (by omega)).1, fun k hk => (hnew k (by omega)).2.2.1, fun k hk => by rw [(hnew k (by omega)).2.1]; exact Nat.le_refl _, fun k hk _ => (hnew k (by omega)).2.1, fun k cp hk hob _ ht => ?_, hsz, rfl, fun k hk => ?_, fun k _ => hpp' k, hos, htp, hout⟩
    · have hk : k < w.heap.size := by
        rcases Nat.lt_or_ge k w.heap.size with hk | hk
        · exact hk
        · have := h.hpp k hk; omega
      exact cell?_of_heap (hoth k hk (by rintro rfl; omega) (fun j n hj e => by have := (lj j n hj).2.2.2.1; rw [← e] at this; omega)) o
    · obtain ⟨x, hx⟩ : ∃ x, S[k]? = some x := ⟨_, List.getElem?_eq_getElem hk⟩
      have hd : x ≠ .dead := by rintro rfl; have := h.live k _ hx; simp [Live, hob] at this
      have hlt := ht.lt
      have n1 : k ≠ i := by rintro rfl; rw [hob] at i1; cases i1
      exact TipC.heap (g := g) (hnew k (by omega)).1 (hnew k (by omega)).2.1 (hnew k (by omega)).2.2.1 (hpp' _) (hoth _ hlt (injI k x hx hd n1) (fun j n hj => injJ k x hx hd j n hj (by rintro rfl; have := (lj k n hj).2.1; rw [hob] at this; cases this))) ht
    · exact hoth k (h.hfix k hk) (by rintro rfl; exact i2 hk) (fun j n hj e => by have := (lj j n hj).2.2.1; rw [← e] at this; exact this hk)
  have hlen : (noBuf S b).length = S.length := noBuf_len S b
  have get : ∀ k o, (((noBuf S b).set i (.bld T true (some (S.length, bs'.length)))) ++ [.buf bs' t])[k]? = some o →
      (k = S.length ∧ o = .buf bs' t) ∨ (k = i ∧ o = .bld T true (some (S.length, bs'.length))) ∨ (k < S.length ∧ k ≠ i ∧ (∃ n, b = some (k, n)) ∧ o = .dead) ∨ (k < S.length ∧ k ≠ i ∧ (∀ j n, b = some (j, n) → k ≠ j) ∧ S[k]? = some o) := by
    intro k o hk
    rcases Nat.lt_or_ge k S.length with hlt | hge
    · rw [List.getElem?_append_left (by simp [hlen]; omega)] at hk
      by_cases hki : k = i
      · subst hki
        rw [List.getElem?_set_self (by omega)] at hk
        exact .inr (.inl ⟨rfl, (Option.some.inj hk).symm⟩)
      · rw [List.getElem?_set_ne (Ne.symm hki)] at hk
        cases b with
        | none => exact .inr (.inr (.inr ⟨hlt, hki, (fun j n h => by cases h), hk⟩))
        | some p =>
          obtain ⟨j, n⟩ := p
          simp only [noBuf] at hk
          by_cases hkj : k = j
          · subst hkj
            rw [List.getElem?_set_self hlt] at hk
            exact .inr (.inr (.inl ⟨hlt, hki, ⟨n, rfl⟩, (Option.some.inj hk).symm⟩))
          · rw [List.getElem?_set_ne (Ne.symm hkj)] at hk
            exact .inr (.inr (.inr ⟨hlt, hki, (fun j' n' h => by injection h with h; injection h with h1 h2; subst h1; exact hkj), hk⟩))
    · have : k = S.length := by
        have := (List.getElem?_eq_some_iff.1 hk).1
        simp [hlen] at this; omega
      subst this
      left
      rw [List.getElem?_append_right (by simp [hlen])] at hk
      simp [hlen] at hk
      exact ⟨rfl, hk.symm⟩
  have hlen' : (((noBuf S b).set i (.bld T true (some (S.length, bs'.length)))) ++ [SObj.buf bs' t]).length = S.length + 1 := by simp [hlen]
  refine ⟨⟨Nat.zero_le _, fun k hk => by omega, fun k hk => by have := h.hfix k hk; omega, fun k hk => by rw [hpp' k]; exact h.hpp k (by omega), ?_, ?_⟩, evo⟩
  · intro k o hk
    have hlim : lim 0 bd (((noBuf S b).set i (.bld T true (some (S.length, bs'.length)))) ++ [SObj.buf bs' t]).length k = S.length + 1 := by rw [hlen']; rfl
    rw [hlim]
    rcases get k o hk with ⟨rfl, rfl⟩ | ⟨rfl, rfl⟩ | ⟨hlt, hki, ⟨n, hj⟩, rfl⟩ | ⟨hlt, hki, hkj, ho⟩
    · refine ⟨nL.2.2, ?_, by rw [nL.1, hpp']; exact ppq, hne, cur', by rw [nL.1]; exact hrow, by rw [nL.2.1]; exact hcs, by rw [nL.2.1]; exact hcm, by rw [nL.2.1]; exact hn, htk⟩
      rw [nL.1]
      intro hf
      rcases hq with ⟨j, n, hj, rfl⟩ | hq
      · exact (lj j n hj).2.2.1 hf
      · have := h.hfix q hf; omega
    · have hk' := hnew k (by omega)
      refine ⟨hk'.2.2.2.trans i1, by rw [hk'.1]; exact i2, by rw [hk'.1, hpp']; exact i3, fun j n hj => ?_, ?_⟩
      · injection hj with hj; injection hj with hj1 hj2; subst hj1; exact ⟨by omega, nL.2.2⟩
      · rw [hk'.1]; simp only [bufVal, nL.1, nL.2.1, if_true]; exact hbox
    · exact (hnew k (by omega)).2.2.2.trans (lj k n hj).2.1
    · have hk' := hnew k (by omega)
      have hl := h.live k o ho
      have hlim0 : lim 0 bd S.length k = S.length := rfl
      rw [hlim0] at hl
      refine (hl.evo evo hk'.2.2.2 hk'.1 hk'.2.1 hk'.2.2.1 (fun hd _ => ⟨hoth _ (hl.loc_lt hd) (injI k o ho hd hki) (fun j n hj => injJ k o ho hd j n hj (hkj j n hj)), hpp' _⟩)).mono (by omega)
  · intro x y o p hx hy ho hp hloc
    have back : ∀ k o, (((noBuf S b).set i (.bld T true (some (S.length, bs'.length)))) ++ [.buf bs' t])[k]? = some o → o ≠ .dead → k ≠ S.length → k < S.length ∧ (∃ o', S[k]? = some o' ∧ o' ≠ .dead) ∧ (∀ j n, b = some (j, n) → k ≠ j) := by
      intro k o hk hd hne
      rcases get k o hk with ⟨rfl, rfl⟩ | ⟨rfl, rfl⟩ | ⟨_, _, _, rfl⟩ | ⟨hlt, hki, hkj, ho⟩
      · exact absurd rfl hne
      · exact ⟨hilt, ⟨_, hs, by simp⟩, fun j n hj => (lj j n hj).2.2.2.2.2.symm⟩
      · exact absurd rfl hd
      · exact ⟨hlt, ⟨o, ho, hd⟩, hkj⟩
    have apart : ∀ k o, (((noBuf S b).set i (.bld T true (some (S.length, bs'.length)))) ++ [.buf bs' t])[k]? = some o → o ≠ .dead → k ≠ S.length → g.loc k ≠ q := by
      intro k o hk hd hne e
      obtain ⟨hlt, ⟨o', ho', hd'⟩, hkj⟩ := back k o hk hd hne
      rcases hq with ⟨j, n, hj, rfl⟩ | hq
      · exact injJ k o' ho' hd' j n hj (hkj j n hj) e
      · have := (h.live k o' ho').loc_lt hd'; omega
    by_cases e1 : x = S.length <;> by_cases e2 : y = S.length
    · omega
    · subst e1
      rw [nL.1, (hnew y e2).1] at hloc
      exact absurd hloc.symm (apart y p hy hp e2)
    · subst e2
      rw [nL.1, (hnew x e1).1] at hloc
      exact absurd hloc (apart x o hx ho e1)
    · rw [(hnew x e1).1, (hnew y e2).1] at hloc
      obtain ⟨_, ⟨o', h1, h2⟩, _⟩ := back x o hx ho e1
      obtain ⟨_, ⟨p', h3, h4⟩, _⟩ := back y p hy hp e2
      exact h.inj x y o' p' h1 h3 h2 h4 hloc
end Go.Pam
