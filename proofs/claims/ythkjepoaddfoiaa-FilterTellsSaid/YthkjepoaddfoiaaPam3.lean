/- Stores, growing rows. -/
import Derived.Test.YthkjepoaddfoiaaPam2
namespace Go.Pam
set_option linter.unusedVariables false
set_option linter.unusedSimpArgs false
open Go.RowKit

theorem Evo.write {n : Nat} {g : G} {w w' : World} {b : Nat} {cur cur' : Array Value} {e : TypeId} {fr : Nat × Nat}
    (h0 : w.heap[b]? = some (.cells cur e fr)) (h1 : w'.heap[b]? = some (.cells cur' e fr)) (hsz : cur'.size = cur.size)
    (hoth : ∀ k, k ≠ b → w'.heap[k]? = w.heap[k]?) (hsame : ∀ i, i < g.pp b → cur'[i]? = cur[i]?) (hB : ¬ g.fix b)
    (hs : w.heap.size = w'.heap.size) (ho : w'.os = w.os) (ht : w'.tape = w.tape) (hp : w'.output = w.output) : Evo n g w g w' where
  pp _ := Nat.le_refl _
  cell k o hk := by
    by_cases hb : k = b
    · subst hb
      simp [World.cell?, h0, h1, hsame o hk]
    · exact cell?_of_heap (hoth k hb) o
  obj _ _ := rfl
  loc _ _ _ := rfl
  tsz _ _ := rfl
  hw _ _ := Nat.le_refl _
  hwo _ _ _ := rfl
  tip id cap _ _ _ h := by
    by_cases hb : g.loc id = b
    · obtain ⟨c, e', fr', h2, h3, h4, h5⟩ := h
      rw [hb] at h2 h4
      rw [h0] at h2
      injection h2 with h2
      injection h2 with h2a h2b h2c
      subst h2a; subst h2b; subst h2c
      refine ⟨cur', e, fr, by rw [hb]; exact h1, by omega, fun i hi hj => ?_, h5⟩
      have := h4 i hi (by omega)
      rw [hb]
      simpa [World.frozen?, h0, h1] using this
    · exact h.heap rfl rfl rfl rfl (hoth _ hb)
  size := by omega
  fix := rfl
  low k hk := hoth k (by rintro rfl; exact hB hk)
  pplow _ _ := rfl
  os := ho
  tape := ht
  output := hp

theorem alloc_new (w : World) (o : Obj) : (w.alloc o).heap[w.heap.size]? = some o := by
  show (w.heap.push o)[w.heap.size]? = some o
  simp

theorem setCell_block {w : World} {b i : Nat} {cur : Array Value} {e : TypeId} {fr : Nat × Nat} (h0 : w.heap[b]? = some (.cells cur e fr)) (v : Value) :
    (w.setCell ⟨b, i, none⟩ v).heap[b]? = some (.cells (cur.setIfInBounds i v) e fr) := by
  obtain ⟨hb, he⟩ := Array.getElem?_eq_some_iff.1 h0
  simp [World.setCell, Array.getElem?_modify, h0]

theorem setCell_other {w : World} {b i : Nat} (v : Value) {k : Nat} (hk : k ≠ b) : (w.setCell ⟨b, i, none⟩ v).heap[k]? = w.heap[k]? :=
  Below.heap_setCell w ⟨b, i, none⟩ v k hk

theorem setCells_block (b : Nat) (e : TypeId) (fr : Nat × Nat) : ∀ (vs : List Value) (o : Nat) (w : World) (cur : Array Value), w.heap[b]? = some (.cells cur e fr) → o + vs.length ≤ cur.size →
    ∃ cur', (w.setCells b o vs).heap[b]? = some (.cells cur' e fr) ∧ cur'.size = cur.size ∧ (∀ i, i < o ∨ o + vs.length ≤ i → cur'[i]? = cur[i]?) ∧ (∀ (j : Nat) (v : Value), vs[j]? = some v → cur'[o + j]? = some v) ∧
      (∀ k, k ≠ b → (w.setCells b o vs).heap[k]? = w.heap[k]?) ∧ (w.setCells b o vs).heap.size = w.heap.size ∧ (w.setCells b o vs).os = w.os ∧ (w.setCells b o vs).tape = w.tape ∧ (w.setCells b o vs).output = w.output
  | [], o, w, cur, h, _ => ⟨cur, h, rfl, fun _ _ => rfl, fun j v hj => by simp at hj, fun _ _ => rfl, rfl, rfl, rfl, rfl⟩
  | v :: vs, o, w, cur, h, hl => by
    simp only [List.length_cons] at hl
    obtain ⟨cur', h1, h2, h3, h4, h5, h6, h7, h8, h9⟩ := setCells_block b e fr vs (o + 1) (w.setCell ⟨b, o, none⟩ v) _ (setCell_block h v) (by simp; omega)
    refine ⟨cur', h1, by simpa using h2, ?_, ?_, ?_, ?_, h7.trans rfl, h8.trans rfl, h9.trans rfl⟩
    · intro i hi
      rw [h3 i (by simp only [List.length_cons] at hi; omega)]
      rw [Array.getElem?_setIfInBounds_ne (by simp only [List.length_cons] at hi; omega)]
    · intro j x hx
      cases j with
      | zero =>
        have : v = x := by simpa using hx
        subst this
        rw [Nat.add_zero, h3 o (by omega)]
        rw [Array.getElem?_setIfInBounds_self]
        rw [if_pos (by omega)]
      | succ j =>
        have := h4 j x (by simpa using hx)
        rw [show o + (j + 1) = o + 1 + j by omega]
        exact this
    · intro k hk
      exact (h5 k hk).trans (setCell_other v hk)
    · exact h6.trans (by simp)

section
variable {S : List SObj} {w w' : World} {g : G} {base : Nat} {bd : Nat → Nat}

theorem R.lt (_h : R S w g base bd) {id : Nat} {o : SObj} (hs : S[id]? = some o) : id < S.length := (List.getElem?_eq_some_iff.1 hs).1

theorem R.setCell (h : R S w g base bd) {id : Nat} {cs : List PV} (hs : S[id]? = some (.cells cs)) {j : Nat} (hj : j < cs.length) {c : PV} {v : Value}
    (hv : V g w (lim base bd S.length id) c v) (hone : v.oneCell' = true) (n : Nat) :
    R (S.set id (.cells (cs.set j c))) (w.setCell ⟨g.loc id, j, none⟩ v) g base bd ∧ Evo n g w g (w.setCell ⟨g.loc id, j, none⟩ v) := by
  obtain ⟨l1, l2, l3, cur, t, l4, l5, l7, l6⟩ := h.live id _ hs
  have hblk := setCell_block (i := j) l4 v
  have evo : ∀ m, Evo m g w g (w.setCell ⟨g.loc id, j, none⟩ v) := fun m =>
    Evo.write l4 hblk (by simp) (fun k hk => setCell_other v hk) (fun i hi => by omega) l2 (by simp) rfl rfl rfl
  refine ⟨⟨by simpa using h.hbase, h.hbd, fun k hk => by simpa using h.hfix k hk, fun b hb => h.hpp b (by simpa using hb), ?_, ?_⟩, evo n⟩
  · intro k o hk
    rw [List.length_set]
    by_cases hki : k = id
    · subst hki
      have hlt := R.lt h hs
      rw [List.getElem?_set_self hlt] at hk
      injection hk with hk
      subst hk
      refine ⟨l1, l2, l3, _, t, hblk, by simpa using l5, fun z hz => ?_, fun i x hx => ?_⟩
      · rcases Array.mem_or_eq_of_mem_setIfInBounds hz with hz | hz
        · exact l7 z hz
        · rw [hz]; exact hone
      by_cases hij : i = j
      · subst hij
        rw [List.getElem?_set_self hj] at hx
        injection hx with hx
        subst hx
        rw [Array.getD_eq_getD_getElem?, Array.getElem?_setIfInBounds_self, if_pos (by omega)]
        exact hv.evo (evo _)
      · rw [List.getElem?_set_ne (Ne.symm hij)] at hx
        rw [Array.getD_eq_getD_getElem?, Array.getElem?_setIfInBounds_ne (Ne.symm hij), ← Array.getD_eq_getD_getElem?]
        exact (l6 i x hx).evo (evo _)
    · rw [List.getElem?_set_ne (Ne.symm hki)] at hk
      have hl := h.live k o hk
      refine hl.evo (evo _) rfl rfl rfl rfl (fun hd _ => ⟨setCell_other v (fun e => hki ?_), rfl⟩)
      exact h.inj k id o _ hk hs hd (by simp) e
  · intro i k o p hi hk ho hp hloc
    have aux : ∀ (m : Nat) (q : SObj), (S.set id (.cells (cs.set j c)))[m]? = some q → q ≠ .dead → ∃ q', S[m]? = some q' ∧ q' ≠ .dead := by
      intro m q hm hq
      by_cases hmi : m = id
      · subst hmi; exact ⟨_, hs, by simp⟩
      · rw [List.getElem?_set_ne (Ne.symm hmi)] at hm
        exact ⟨q, hm, hq⟩
    obtain ⟨o', h1, h2⟩ := aux i o hi ho
    obtain ⟨p', h3, h4⟩ := aux k p hk hp
    exact h.inj i k o' p' h1 h3 h2 h4 hloc

def G.grow (g : G) (id b hw p : Nat) : G :=
  { g with pp := fun k => if k = b then p else g.pp k, loc := fun k => if k = id then b else g.loc k, hw := fun k => if k = id then hw else g.hw k }

theorem tip_inj (h : R S w g base bd) {id : Nat} {hw sz : Nat} (hs : S[id]? = some (.tip hw sz)) {k : Nat} {o : SObj} (hk : S[k]? = some o) (hd : o ≠ .dead) (hne : k ≠ id) : g.loc k ≠ g.loc id :=
  fun e => hne (h.inj k id o _ hk hs hd (by simp) e)

theorem R.grown_aux (h : R S w g base bd) {id hw sz b p m : Nat} (hs : S[id]? = some (.tip hw sz)) (hb0 : ¬ g.fix b) (hb : b < w'.heap.size)
    (hpp : ∀ k, w'.heap.size ≤ k → g.pp k = 0) (_hle : w.heap.size ≤ w'.heap.size)
    (hfree : ∀ (k : Nat) (o : SObj), S[k]? = some o → o ≠ .dead → k ≠ id → g.loc k ≠ b)
    (hheap : ∀ (k : Nat) (o : SObj), S[k]? = some o → o ≠ .dead → k ≠ id → w'.heap[g.loc k]? = w.heap[g.loc k]?)
    (evo : Evo S.length g w (g.grow id b m p) w') : R (S.set id (.tip m sz)) w' (g.grow id b m p) base bd := by
  obtain ⟨t1, t2, t3, t4, t5⟩ := h.live id _ hs
  refine ⟨by simpa using h.hbase, h.hbd, fun k hk => by have := h.hfix k hk; omega, ?_, ?_, ?_⟩
  · intro k hk
    simp only [G.grow]
    rw [if_neg (by omega)]
    exact hpp k hk
  · intro k o hk
    rw [List.length_set]
    by_cases hki : k = id
    · subst hki
      have hlt := R.lt h hs
      rw [List.getElem?_set_self hlt] at hk
      injection hk with hk
      subst hk
      refine ⟨t1, by simp [G.grow], t3, by simpa [G.grow] using hb0, by simpa [G.grow] using hb⟩
    · rw [List.getElem?_set_ne (Ne.symm hki)] at hk
      have hl := h.live k o hk
      refine hl.evo (evo.mono (lim_le h k)) rfl (by simp [G.grow, hki]) (by simp [G.grow, hki]) rfl (fun hd _ => ⟨hheap k o hk hd hki, ?_⟩)
      simp only [G.grow]
      rw [if_neg (hfree k o hk hd hki)]
  · intro i k o q hi hk ho hq hloc
    have aux : ∀ (j : Nat) (x : SObj), (S.set id (.tip m sz))[j]? = some x → x ≠ .dead → ∃ x', S[j]? = some x' ∧ x' ≠ .dead := by
      intro j x hj hx
      by_cases hji : j = id
      · subst hji; exact ⟨_, hs, by simp⟩
      · rw [List.getElem?_set_ne (Ne.symm hji)] at hj
        exact ⟨x, hj, hx⟩
    obtain ⟨o', h1, h2⟩ := aux i o hi ho
    obtain ⟨q', h3, h4⟩ := aux k q hk hq
    simp only [G.grow] at hloc
    by_cases e1 : i = id <;> by_cases e2 : k = id
    · omega
    · rw [if_pos e1, if_neg e2] at hloc
      exact absurd hloc.symm (hfree k q' h3 h4 e2)
    · rw [if_neg e1, if_pos e2] at hloc
      exact absurd hloc (hfree i o' h1 h2 e1)
    · rw [if_neg e1, if_neg e2] at hloc
      exact h.inj i k o' q' h1 h3 h2 h4 hloc

theorem R.growIn (h : R S w g base bd) {id hw sz cap m : Nat} (hs : S[id]? = some (.tip hw sz)) (ht : TipC g w id cap) (hm : hw < m) {vs : List Value}
    (hl : vs.length = (m - hw) * sz) (hcap : m ≤ cap) :
    R (S.set id (.tip m sz)) (w.setCells (g.loc id) (hw * sz) vs) (g.grow id (g.loc id) m (m * sz)) base bd ∧
    Evo S.length g w (g.grow id (g.loc id) m (m * sz)) (w.setCells (g.loc id) (hw * sz) vs) ∧
    TipC (g.grow id (g.loc id) m (m * sz)) (w.setCells (g.loc id) (hw * sz) vs) id cap := by
  obtain ⟨t1, t2, t3, t4, t5⟩ := h.live id _ hs
  obtain ⟨cur, e, fr, c1, c2, c3, c4⟩ := ht
  rw [t2, t3] at c3 c4
  rw [t3] at c2
  have hmul : hw * sz + (m - hw) * sz = m * sz := by rw [← Nat.add_mul]; congr 1; omega
  have hle : m * sz ≤ cap * sz := Nat.mul_le_mul_right _ hcap
  obtain ⟨cur', s1, s2, s3, s4, s5, s6, s7, s8, s9⟩ := setCells_block (g.loc id) e fr vs (hw * sz) w cur c1 (by omega)
  have evo : Evo S.length g w (g.grow id (g.loc id) m (m * sz)) (w.setCells (g.loc id) (hw * sz) vs) := by
    refine ⟨?_, ?_, fun _ _ => rfl, ?_, fun _ _ => rfl, ?_, (fun k _ hob => by simp only [G.grow]; rw [if_neg (by rintro rfl; rw [t1] at hob; cases hob)]), ?_, by omega, rfl, fun k hk => s5 k (by rintro rfl; exact t4 hk), fun k hk => by simp only [G.grow]; rw [if_neg (by rintro rfl; exact t4 hk)], s7, s8, s9⟩
    · intro b
      simp only [G.grow]
      split
      · subst_vars; omega
      · exact Nat.le_refl _
    · intro b o ho
      by_cases hb : b = g.loc id
      · subst hb
        have := s3 o (.inl (by omega))
        simp [World.cell?, s1, c1, this]
      · exact cell?_of_heap (s5 b hb) o
    · intro k _ _
      simp only [G.grow]
      split
      · subst_vars; rfl
      · rfl
    · intro k _
      simp only [G.grow]
      split
      · subst_vars; omega
      · exact Nat.le_refl _
    · intro k cp hk hob he hc
      have hki : k ≠ id := by
        rintro rfl
        simp [G.grow] at he
        omega
      obtain ⟨o, ho⟩ : ∃ o, S[k]? = some o := ⟨_, List.getElem?_eq_getElem hk⟩
      have hd : o ≠ .dead := by
        rintro rfl
        have := h.live k _ ho
        simp [Live, hob] at this
      have hlk := tip_inj h hs ho hd hki
      exact TipC.heap (g := g) (by simp [G.grow, hki]) (by simp [G.grow, hki]) rfl (by simp [G.grow, hlk]) (s5 _ hlk) hc
  refine ⟨R.grown_aux h hs t4 (by omega) (fun k hk => h.hpp k (by omega)) (by omega) (fun k o hk hd hne => tip_inj h hs hk hd hne) (fun k o hk hd hne => s5 _ (tip_inj h hs hk hd hne)) evo, evo, ?_⟩
  refine ⟨cur', e, fr, by simpa [G.grow] using s1, by simp [G.grow, t3, s2, c2], fun i hi hj => ?_, by simp [G.grow, t3]⟩
  have := c3 i (by simp [G.grow, t3] at hi; omega) (by omega)
  rw [s2] at hj
  simp only [G.grow, if_true]
  simpa [World.frozen?, s1, c1] using this

theorem R.growOut (h : R S w g base bd) {id hw sz cap m : Nat} (hs : S[id]? = some (.tip hw sz)) (hm : hw < m) {cur : Array Value} (e : TypeId)
    (hcur : cur.size = cap * sz) :
    R (S.set id (.tip m sz)) (w.alloc (.cells cur e)) (g.grow id w.heap.size m (m * sz)) base bd ∧
    Evo S.length g w (g.grow id w.heap.size m (m * sz)) (w.alloc (.cells cur e)) ∧
    TipC (g.grow id w.heap.size m (m * sz)) (w.alloc (.cells cur e)) id cap := by
  obtain ⟨t1, t2, t3, t4, t5⟩ := h.live id _ hs
  have hpp := h.hpp w.heap.size (Nat.le_refl _)
  have llt : ∀ (k : Nat) (o : SObj), S[k]? = some o → o ≠ .dead → g.loc k < w.heap.size := fun k o hk hd => (h.live k o hk).loc_lt hd
  have evo : Evo S.length g w (g.grow id w.heap.size m (m * sz)) (w.alloc (.cells cur e)) := by
    refine ⟨?_, ?_, fun _ _ => rfl, ?_, fun _ _ => rfl, ?_, (fun k _ hob => by simp only [G.grow]; rw [if_neg (by rintro rfl; rw [t1] at hob; cases hob)]), ?_, by simp, rfl, fun k hk => Below.heap_alloc w _ k (h.hfix k hk), fun k hk => by simp only [G.grow]; rw [if_neg (by have := h.hfix k hk; omega)], rfl, rfl, rfl⟩
    · intro b
      simp only [G.grow]
      split
      · subst_vars; omega
      · exact Nat.le_refl _
    · intro b o ho
      have hb : b ≠ w.heap.size := by rintro rfl; omega
      exact World.cell?_alloc_old w _ (a := ⟨b, o, none⟩) hb
    · intro k hk ho
      simp only [G.grow] at ho ⊢
      split
      · rename_i hk2
        rw [if_pos hk2] at ho
        subst hk2
        rcases ho with ho | ho
        · rw [t1] at ho; cases ho
        · omega
      · rfl
    · intro k _
      simp only [G.grow]
      split
      · subst_vars; omega
      · exact Nat.le_refl _
    · intro k cp hk hob he hc
      have hki : k ≠ id := by
        rintro rfl
        simp [G.grow] at he
        omega
      have hlt := hc.lt
      exact TipC.heap (g := g) (by simp [G.grow, hki]) (by simp [G.grow, hki]) rfl (by simp only [G.grow]; rw [if_neg (by omega)]) (Below.heap_alloc w _ _ hlt) hc
  refine ⟨R.grown_aux h hs (fun hk => by have := h.hfix _ hk; omega) (by simp) (fun k hk => h.hpp k (by simp at hk; omega)) (by simp) (fun k o hk hd _ => by have := llt k o hk hd; omega) (fun k o hk hd _ => Below.heap_alloc w _ _ (llt k o hk hd)) evo, evo, ?_⟩
  have hnew := alloc_new w (.cells cur e)
  refine ⟨cur, e, (0, 0), by simpa only [G.grow, if_true] using hnew, by simp [G.grow, t3, hcur], fun i hi hj => ?_, by simp [G.grow, t3]⟩
  simp only [G.grow, if_true, World.frozen?, hnew]
  simp
end
end Go.Pam
