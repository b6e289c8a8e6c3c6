/- Soundness of the single steps, sixth part: rows. -/
import Derived.Test.YthkjepoaddfoiaaPam10
import Derived.Laws.Tables
import Derived.IntWalk
namespace Go.Pam
set_option linter.unusedVariables false
set_option linter.unusedSimpArgs false
open Go.RowKit

theorem R.newRow {S : List SObj} {w : World} {g : G} {base : Nat} {bd : Nat → Nat} (h : R S w g base bd) (o : Obj) (p : Nat) :
    R S (w.alloc o) (g.new S.length w.heap.size p 0 0 false) base bd ∧ Evo S.length g w (g.new S.length w.heap.size p 0 0 false) (w.alloc o) := by
  have hpp := h.hpp w.heap.size (Nat.le_refl _)
  have hgB := h.hfix
  have evo : Evo S.length g w (g.new S.length w.heap.size p 0 0 false) (w.alloc o) := Evo.newBlock o (Nat.le_refl _) hpp hgB
  have old : ∀ (id : Nat) (x : SObj), S[id]? = some x → id < S.length := fun id x hx => (List.getElem?_eq_some_iff.1 hx).1
  refine ⟨⟨h.hbase, h.hbd, fun k hk => by have := h.hfix k hk; simp; omega, ?_, ?_, ?_⟩, evo⟩
  · intro b hb'
    simp only [G.new, World.size_alloc] at hb' ⊢
    rw [if_neg (by omega)]
    exact h.hpp b (by omega)
  · intro id x hx
    have hi := old id x hx
    have hl := h.live id x hx
    refine hl.evo (evo.mono (lim_le h id)) ?_ ?_ ?_ ?_ ?_
    · simp only [G.new]; rw [if_neg (by omega)]
    · simp only [G.new]; rw [if_neg (by omega)]
    · simp only [G.new]; rw [if_neg (by omega)]
    · simp only [G.new]; rw [if_neg (by omega)]
    · intro hd _
      have hlt := hl.loc_lt hd
      refine ⟨Below.heap_alloc w o _ hlt, ?_⟩
      simp only [G.new]; rw [if_neg (by omega)]
  · intro i j x y hx hy hxd hyd hloc
    have hi := old i x hx
    have hj := old j y hy
    simp only [G.new] at hloc
    rw [if_neg (by omega), if_neg (by omega)] at hloc
    exact h.inj i j x y hx hy hxd hyd hloc

def Flat (g : G) (w : World) (n sz : Nat) (xs : List PV) (us : List Value) : Prop :=
  us.length = xs.length * sz ∧ (∀ (i : Nat) (x : PV), xs[i]? = some x → x.cells.length = sz) ∧
  (∀ (i : Nat) (x : PV) (j : Nat) (c : PV), xs[i]? = some x → x.cells[j]? = some c → V g w n c (us.getD (i * sz + j) undef)) ∧ (∀ u ∈ us, u.oneCell' = true)

section
variable {g g' : G} {w w' : World} {n sz : Nat} {xs ys : List PV} {us vs : List Value}

theorem Flat.nil (g : G) (w : World) (n sz : Nat) : Flat g w n sz [] [] :=
  ⟨by simp, fun i x h => by simp at h, fun i x j c h => by simp at h, fun u h => by simp at h⟩

theorem Flat.evo (h : Flat g w n sz xs us) (e : Evo n g w g' w') : Flat g' w' n sz xs us := ⟨h.1, h.2.1, fun i x j c hi hj => (h.2.2.1 i x j c hi hj).evo e, h.2.2.2⟩
theorem Flat.mono {m : Nat} (h : Flat g w n sz xs us) (hm : n ≤ m) : Flat g w m sz xs us := ⟨h.1, h.2.1, fun i x j c hi hj => (h.2.2.1 i x j c hi hj).mono hm, h.2.2.2⟩

theorem idx_lt {i j sz len : Nat} (hi : i < len) (hj : j < sz) : i * sz + j < len * sz := by
  have : (i + 1) * sz ≤ len * sz := Nat.mul_le_mul_right _ hi
  rw [Nat.add_mul] at this; omega

theorem Flat.append (h : Flat g w n sz xs us) (k : Flat g w n sz ys vs) : Flat g w n sz (xs ++ ys) (us ++ vs) := by
  refine ⟨by simp [h.1, k.1, Nat.add_mul], fun i x hi => ?_, fun i x j c hi hj => ?_, fun u hu => ?_⟩
  · rcases Nat.lt_or_ge i xs.length with hl | hl
    · rw [List.getElem?_append_left hl] at hi; exact h.2.1 i x hi
    · rw [List.getElem?_append_right hl] at hi; exact k.2.1 _ x hi
  · rcases Nat.lt_or_ge i xs.length with hl | hl
    · rw [List.getElem?_append_left hl] at hi
      have hc := h.2.1 i x hi
      have hj' := (List.getElem?_eq_some_iff.1 hj).1
      have := h.2.2.1 i x j c hi hj
      rw [List.getD_eq_getElem?_getD] at this ⊢
      rw [List.getElem?_append_left (by rw [h.1]; exact idx_lt hl (by omega))]
      exact this
    · rw [List.getElem?_append_right hl] at hi
      have hc := k.2.1 _ x hi
      have hj' := (List.getElem?_eq_some_iff.1 hj).1
      have := k.2.2.1 _ x j c hi hj
      have hge : us.length ≤ i * sz + j := by
        rw [h.1]
        have : xs.length * sz ≤ i * sz := Nat.mul_le_mul_right _ hl
        omega
      rw [List.getD_eq_getElem?_getD] at this ⊢
      rw [List.getElem?_append_right hge, h.1]
      have e : i * sz + j - xs.length * sz = (i - xs.length) * sz + j := by
        rw [Nat.sub_mul]
        have : xs.length * sz ≤ i * sz := Nat.mul_le_mul_right _ hl
        omega
      rw [e]
      exact this
  · rcases List.mem_append.1 hu with hu | hu
    · exact h.2.2.2 u hu
    · exact k.2.2.2 u hu

theorem Flat.lst (h : Flat g w n sz xs us) {b o cap : Nat} {tag : Tag} (hcap : xs.length ≤ cap) (hpp : ∀ k, k < us.length → o + k < g.pp b)
    (hcell : ∀ (k : Nat) (u : Value), us[k]? = some u → w.cell? ⟨b, o + k, none⟩ = some u) (ht : TagOk g w n tag b o xs.length cap sz) : V g w n (.lst xs tag) (.slice (some ⟨b, o, none⟩) xs.length cap) := by
  have lt : ∀ (i : Nat) (x : PV) (j : Nat), xs[i]? = some x → j < sz → i * sz + j < us.length := fun i x j hi hj => by
    rw [h.1]; exact idx_lt (List.getElem?_eq_some_iff.1 hi).1 hj
  have jl : ∀ (i : Nat) (x : PV) (j : Nat) (c : PV), xs[i]? = some x → x.cells[j]? = some c → j < sz := fun i x j c hi hj => by
    rw [← h.2.1 i x hi]; exact (List.getElem?_eq_some_iff.1 hj).1
  refine .lst xs tag b o cap sz (fun i j => us.getD (i * sz + j) undef) hcap h.2.1 (fun i x j c hi hj => ?_) (fun i x j c hi hj => ?_) h.2.2.1 (fun i x j hi hj => ?_) ht
  · have := hpp _ (lt i x j hi (jl i x j c hi hj)); omega
  · have hl := lt i x j hi (jl i x j c hi hj)
    rw [Nat.add_assoc, hcell _ us[i * sz + j] (List.getElem?_eq_getElem hl), List.getD_eq_getElem?_getD, List.getElem?_eq_getElem hl]
    rfl
  · have hl := lt i x j hi hj
    rw [List.getD_eq_getElem?_getD, List.getElem?_eq_getElem hl]
    exact h.2.2.2 _ (List.getElem_mem _)

theorem V.flat {tag : Tag} {v : Value} (h : V g w n (.lst xs tag) v) (hne : xs ≠ [] ∨ tag ≠ .none) : ∃ b o cap sz us, v = .slice (some ⟨b, o, none⟩) xs.length cap ∧ xs.length ≤ cap ∧ Flat g w n sz xs us ∧
    (∀ k, k < us.length → o + k < g.pp b) ∧ (∀ (k : Nat) (u : Value), us[k]? = some u → w.cell? ⟨b, o + k, none⟩ = some u) ∧ TagOk g w n tag b o xs.length cap sz := by
  rcases h.inv_lst with ⟨rfl, rfl, _⟩ | ⟨b, o, cap, sz, u, rfl, h0, h1, h2, h3, h4, h5, h6⟩
  · rcases hne with h | h <;> exact absurd rfl h
  have dm : ∀ k, k < xs.length * sz → ∃ i j x c, k = i * sz + j ∧ xs[i]? = some x ∧ x.cells[j]? = some c ∧ j < sz ∧ u (k / sz) (k % sz) = u i j := by
    intro k hk
    have hsz : 0 < sz := by rcases Nat.eq_zero_or_pos sz with e | e; · rw [e] at hk; simp at hk
                            · exact e
    have hi : k / sz < xs.length := Nat.div_lt_of_lt_mul (by rw [Nat.mul_comm]; exact hk)
    have hj : k % sz < sz := Nat.mod_lt _ hsz
    have hx := List.getElem?_eq_getElem hi
    have hc : (xs[k / sz]).cells[k % sz]? = some _ := List.getElem?_eq_getElem (by rw [h1 _ _ hx]; exact hj)
    exact ⟨k / sz, k % sz, _, _, by have := Nat.div_add_mod k sz; rw [Nat.mul_comm] at this; omega, hx, hc, hj, rfl⟩
  refine ⟨b, o, cap, sz, (List.range (xs.length * sz)).map fun k => u (k / sz) (k % sz), rfl, h0, ⟨by simp, h1, ?_, ?_⟩, ?_, ?_, h6⟩
  · intro i x j c hi hj
    have hjl : j < sz := by rw [← h1 i x hi]; exact (List.getElem?_eq_some_iff.1 hj).1
    have hl := idx_lt (List.getElem?_eq_some_iff.1 hi).1 hjl
    rw [List.getD_eq_getElem?_getD, List.getElem?_map, List.getElem?_range hl]
    have e1 : (i * sz + j) / sz = i := by rw [Nat.mul_comm, Nat.mul_add_div (by omega), Nat.div_eq_of_lt hjl]; omega
    have e2 : (i * sz + j) % sz = j := by rw [Nat.mul_comm, Nat.mul_add_mod, Nat.mod_eq_of_lt hjl]
    simp only [Option.map_some, Option.getD_some, e1, e2]
    exact h4 i x j c hi hj
  · intro z hz
    simp only [List.mem_map, List.mem_range] at hz
    obtain ⟨k, hk, rfl⟩ := hz
    obtain ⟨i, j, x, c, _, hi, _, hj, e⟩ := dm k hk
    rw [e]; exact h5 i x j hi hj
  · intro k hk
    simp only [List.length_map, List.length_range] at hk
    obtain ⟨i, j, x, c, rfl, hi, hj, _, _⟩ := dm k hk
    have := h2 i x j c hi hj; omega
  · intro k z hz
    have hk : k < xs.length * sz := by have := (List.getElem?_eq_some_iff.1 hz).1; simpa using this
    rw [List.getElem?_map, List.getElem?_range hk] at hz
    simp only [Option.map_some] at hz
    injection hz with hz; subst hz
    obtain ⟨i, j, x, c, e0, hi, hj, _, e⟩ := dm k hk
    rw [e]
    have := h3 i x j c hi hj
    rw [e0, ← Nat.add_assoc]; exact this
end

/-! Laying parts into cells -/
theorem lay_get : ∀ (vs : List Value) (off j0 : Nat) (cells : Array Value), 
    let r := (vs.zipIdx j0).foldl (fun cs (p : Value × Nat) => cs.setIfInBounds (off + p.2) p.1) cells
    r.size = cells.size ∧ ∀ k, k < cells.size → r[k]? = if off + j0 ≤ k ∧ k < off + j0 + vs.length then vs[k - (off + j0)]? else cells[k]?
  | [], off, j0, cells => ⟨rfl, fun k hk => by rw [if_neg (by simp only [List.length_nil]; omega)]; rfl⟩
  | v :: vs, off, j0, cells => by
    have ih := lay_get vs off (j0 + 1) (cells.setIfInBounds (off + j0) v)
    simp only [List.zipIdx_cons, List.foldl_cons] at ih ⊢
    obtain ⟨i1, i2⟩ := ih
    refine ⟨by simpa using i1, fun k hk => ?_⟩
    rw [i2 k (by simpa using hk)]
    by_cases h1 : k = off + j0
    · subst h1
      rw [if_neg (by omega), if_pos (by simp)]
      simp [hk]
    · by_cases h2 : off + j0 ≤ k ∧ k < off + j0 + (vs.length + 1)
      · rw [if_pos (by omega), if_pos (by simpa using h2)]
        rw [show k - (off + j0) = k - (off + (j0 + 1)) + 1 by omega, List.getElem?_cons_succ]
      · rw [if_neg (by omega), if_neg (by simpa using h2)]
        rw [Array.getElem?_setIfInBounds_ne (by omega)]

theorem fill_step {place : Nat → Option (Nat × Nat)} {cells : Array Value} {i off size : Nat} {v : Value} {rest : List (Nat × Value)} (hp : place i = some (off, size)) (h1 : v.cells.size = size) (h2 : off + size ≤ cells.size) :
    ∃ r : Array Value, Instr.fill place cells ((i, v) :: rest) = Instr.fill place r rest ∧ r.size = cells.size ∧ ∀ k, k < cells.size → r[k]? = if off ≤ k ∧ k < off + size then v.cells[k - off]? else cells[k]? := by
  have := lay_get v.cells.toList off 0 cells
  simp only [Nat.add_zero, Array.length_toList, Array.getElem?_toList, h1] at this
  obtain ⟨t1, t2⟩ := this
  refine ⟨_, ?_, t1, t2⟩
  simp only [Instr.fill, hp]
  rw [if_neg (by simp [h1]; omega), ← Array.foldl_toList, Array.toList_zipIdx]

section
variable {P : Program} {ctx : Ctx} {S : List SObj} {g : G} {w : World} {n : Nat} {base : Nat} {bd : Nat → Nat}

def Parts (g : G) (w : World) (n : Nat) : List (Nat × PV) → List (Nat × Value) → Prop
  | [], [] => True
  | p :: ps, q :: qs => p.1 = q.1 ∧ V g w n p.2 q.2 ∧ Parts g w n ps qs
  | _, _ => False

theorem fillPV_sound {place : Nat → Option (Nat × Nat)} : ∀ (ps : List (Nat × PV)) (qs : List (Nat × Value)) (cs : List PV) (cs' : Array Value) (r : List PV), Parts g w n ps qs → cs.length = cs'.size →
    (∀ (i : Nat) (c : PV), cs[i]? = some c → V g w n c (cs'.getD i undef)) → (∀ v ∈ cs', v.oneCell' = true) → fillPV place cs ps = some r →
    ∃ r' : Array Value, Instr.fill place cs' qs = some r' ∧ r.length = r'.size ∧ (∀ (i : Nat) (c : PV), r[i]? = some c → V g w n c (r'.getD i undef)) ∧ (∀ v ∈ r', v.oneCell' = true)
  | [], [], cs, cs', r, _, h1, h2, h3, h => by
    simp [fillPV] at h; subst h
    exact ⟨cs', rfl, h1, h2, h3⟩
  | (i, x) :: ps, (i', v) :: qs, cs, cs', r, hp, h1, h2, h3, h => by
    obtain ⟨rfl, hv, hps⟩ := hp
    simp only [fillPV] at h
    split at h
    · cases h
    rename_i off size hpl
    split at h
    · cases h
    rename_i hn
    simp only [not_or, Bool.not_eq_false, Decidable.not_not, Nat.not_lt] at hn
    obtain ⟨n1, n2, n3⟩ := hn
    obtain ⟨y1, y2, y3⟩ := hv.storable n1
    obtain ⟨r1, f1, f2, f3⟩ := fill_step (rest := qs) hpl (y1.trans n2) (show off + size ≤ cs'.size by omega)
    rw [f1]
    have hsp := fun j => splice_get (cs := cs) (xs := x.cells) (off := off) (by omega) j
    have hlen := splice_len (cs := cs) (xs := x.cells) (off := off) (by omega)
    rw [n2] at hlen
    simp only [n2] at hsp
    refine fillPV_sound ps qs _ r1 r hps (by omega) (fun k c hk => ?_) (fun u hu => ?_) h
    · rw [hsp] at hk
      have hkl : k < cs'.size := by
        have : k < (cs.take off ++ x.cells ++ cs.drop (off + size)).length := by
          rcases Nat.lt_or_ge k (cs.take off ++ x.cells ++ cs.drop (off + size)).length with q | q
          · exact q
          · rw [← hsp, List.getElem?_eq_none q] at hk; cases hk
        omega
      rw [Array.getD_eq_getD_getElem?, f3 k hkl]
      split at hk
      · rw [if_neg (by omega), ← Array.getD_eq_getD_getElem?]; exact h2 k c hk
      · split at hk
        · rw [if_pos (by omega), ← Array.getD_eq_getD_getElem?]; exact y2 _ c hk
        · rw [if_neg (by omega), ← Array.getD_eq_getD_getElem?]; exact h2 k c hk
    · obtain ⟨k, hk, rfl⟩ := Array.mem_iff_getElem.1 hu
      have := f3 k (by omega)
      rw [Array.getElem?_eq_getElem hk] at this
      split at this
      · exact y3 _ (Array.mem_of_getElem? this.symm)
      · exact h3 _ (Array.mem_of_getElem? this.symm)
  | [], _ :: _, _, _, _, h, _, _, _, _ => h.elim
  | _ :: _, [], _, _, _, h, _, _, _, _ => h.elim

theorem placesOf_sound (hc : CtxTy P ctx) : ∀ (fs : List Field) (pl : List (Nat × Nat)), placesOf ctx fs = some pl → fs.mapM (fun f => (P.info? f.type).map fun i => (f.offset, i.size)) = some pl
  | [], pl, h => by simp [placesOf] at h; subst h; rfl
  | f :: fs, pl, h => by
    simp only [placesOf] at h
    split at h
    · rename_i fi l hfi hl
      injection h with h; subst h
      obtain ⟨i, z, h1, h2, _⟩ := (hc.ty _ _ hfi).info
      have := placesOf_sound hc fs l hl
      simp only [List.mapM_cons, h1, Option.map_some, h2, this]
      rfl
    · cases h

theorem step_build (hc : CtxTy P ctx) {t : TypeId} {ps : List (Nat × PV)} {qs : Array (Nat × Value)} {y : PV} (hp : Parts g w n ps qs.toList) (h : buildPV ctx t ps = some y) :
    ∃ v, (Instr.build t qs).run P w = .ok v w ∧ V g w n y v := by
  unfold buildPV at h
  split at h
  · cases h
  rename_i ti hti
  have ht := hc.ty _ _ hti
  obtain ⟨i, z, i1, i2, i3, i4, i5, i6, _⟩ := ht.info
  split at h
  · cases h
  rename_i hst
  obtain ⟨z1, z2, z3⟩ := (absV_sound g w n i5).storable (by simpa using hst)
  split at h
  · rename_i fs hund
    split at h
    case h_2 => cases h
    rename_i pl hpl
    cases hf : fillPV (fun i => pl[i]?) ti.zero.cells ps with
    | none => simp [hf] at h
    | some r =>
      simp [hf] at h; subst h
      obtain ⟨r', r1, r2, r3, r4⟩ := fillPV_sound ps qs.toList _ z.cells r hp z1.symm z2 z3 hf
      refine ⟨.agg r', run_build w t qs r' ?_, .agg r r' r2 r3 r4⟩
      unfold Program.built
      simp only [i1, ht.und, hund, i4, placesOf_sound hc _ _ hpl]
      simpa using r1
  · rename_i len e hund
    split at h
    case h_2 => cases h
    rename_i ei hei
    obtain ⟨j, z', j1, j2, _⟩ := (hc.ty _ _ hei).info
    cases hf : fillPV (fun i => some (i * ei.size, ei.size)) ti.zero.cells ps with
    | none => simp [hf] at h
    | some r =>
      simp [hf] at h; subst h
      obtain ⟨r', r1, r2, r3, r4⟩ := fillPV_sound ps qs.toList _ z.cells r hp z1.symm z2 z3 hf
      refine ⟨.agg r', run_build w t qs r' ?_, .agg r r' r2 r3 r4⟩
      unfold Program.built
      simp only [i1, ht.und, hund, i4, j1, j2]
      exact r1
  · cases h

theorem V.flat' {xs : List PV} {tag : Tag} {v : Value} (h : V g w n (.lst xs tag) v) : (xs = [] ∧ tag = .none ∧ ∃ a, v = .slice (some a) 0 0) ∨ ∃ b o cap sz us, v = .slice (some ⟨b, o, none⟩) xs.length cap ∧ xs.length ≤ cap ∧ Flat g w n sz xs us ∧
    (∀ k, k < us.length → o + k < g.pp b) ∧ (∀ (k : Nat) (u : Value), us[k]? = some u → w.cell? ⟨b, o + k, none⟩ = some u) ∧ TagOk g w n tag b o xs.length cap sz := by
  cases h with
  | lst0 a => exact .inl ⟨rfl, rfl, a, rfl⟩
  | lst _ _ b o cap sz u hc h1 h2 h3 h4 h5 ht =>
    by_cases hne : xs ≠ [] ∨ tag ≠ .none
    · exact .inr ((V.lst xs tag b o cap sz u hc h1 h2 h3 h4 h5 ht).flat hne)
    · have hx : xs = [] := Classical.byContradiction fun h => hne (.inl h)
      subst hx
      exact .inr ⟨b, o, cap, sz, [], rfl, hc, ⟨by simp, by simp, by simp, by simp⟩, by simp, by simp, ht⟩

theorem setParts_sound {size : Nat} : ∀ (ps : List (Nat × PV)) (qs : List (Nat × Value)) (xs : List PV) (us : Array Value) (r : List PV), Parts g w n ps qs → Flat g w n size xs us.toList →
    setParts size xs ps = some r → ∃ r' : Array Value, Instr.fill (fun i => some (i * size, size)) us qs = some r' ∧ Flat g w n size r r'.toList ∧ r.length = xs.length
  | [], [], xs, us, r, _, hf, h => by
    simp [setParts] at h; subst h
    exact ⟨us, rfl, hf, rfl⟩
  | (i, x) :: ps, (i', v) :: qs, xs, us, r, hp, hf, h => by
    obtain ⟨rfl, hv, hps⟩ := hp
    simp only [setParts] at h
    split at h
    case isFalse => cases h
    rename_i hn
    obtain ⟨n1, n2, n3⟩ := hn
    obtain ⟨y1, y2, y3⟩ := hv.strip.storable (strip_storable n1)
    rw [strip_cells_len] at y1
    obtain ⟨f1, f2, f3, f4⟩ := hf
    have hle : i * size + size ≤ us.size := by
      have : us.size = xs.length * size := by simpa using f1
      have h2 : (i + 1) * size ≤ xs.length * size := Nat.mul_le_mul_right _ n3
      rw [Nat.add_mul] at h2; omega
    obtain ⟨r1, e1, e2, e3⟩ := fill_step (place := fun i => some (i * size, size)) (rest := qs) (cells := us) (i := i) rfl (y1.trans n2) hle
    rw [e1]
    have hflat : Flat g w n size (xs.set i x.strip) r1.toList := by
      have hus : us.size = xs.length * size := by simpa using f1
      refine ⟨by simp [e2, hus], fun k z hk => ?_, fun k z j c hk hj => ?_, fun u hu => ?_⟩
      · by_cases hki : k = i
        · subst hki
          rw [List.getElem?_set_self n3] at hk
          injection hk with hk; subst hk
          rw [strip_cells_len]; exact n2
        · rw [List.getElem?_set_ne (Ne.symm hki)] at hk; exact f2 k z hk
      · have hkl : k < xs.length := by
          have := (List.getElem?_eq_some_iff.1 hk).1; simpa using this
        by_cases hki : k = i
        · subst hki
          rw [List.getElem?_set_self n3] at hk
          injection hk with hk; subst hk
          have hj' : j < size := by have := (List.getElem?_eq_some_iff.1 hj).1; rw [strip_cells_len] at this; omega
          rw [List.getD_eq_getElem?_getD, Array.getElem?_toList, e3 _ (by rw [hus]; exact idx_lt hkl hj'), if_pos (by omega), show k * size + j - k * size = j by omega, ← Array.getD_eq_getD_getElem?]
          exact y2 j c hj
        · rw [List.getElem?_set_ne (Ne.symm hki)] at hk
          have hj' : j < size := by have := (List.getElem?_eq_some_iff.1 hj).1; rw [f2 k z hk] at this; exact this
          have hne : ¬ (i * size ≤ k * size + j ∧ k * size + j < i * size + size) := by
            intro hh
            rcases Nat.lt_or_gt_of_ne hki with q | q
            · have : (k + 1) * size ≤ i * size := Nat.mul_le_mul_right _ q
              rw [Nat.add_mul] at this; omega
            · have : (i + 1) * size ≤ k * size := Nat.mul_le_mul_right _ q
              rw [Nat.add_mul] at this; omega
          rw [List.getD_eq_getElem?_getD, Array.getElem?_toList, e3 _ (by rw [hus]; exact idx_lt hkl hj'), if_neg hne, ← Array.getElem?_toList, ← List.getD_eq_getElem?_getD]
          exact f3 k z j c hk hj
      · obtain ⟨k, hk, rfl⟩ := Array.mem_iff_getElem.1 (Array.mem_def.2 hu)
        have := e3 k (by omega)
        rw [Array.getElem?_eq_getElem hk] at this
        split at this
        · exact y3 _ (Array.mem_of_getElem? this.symm)
        · exact f4 _ (Array.mem_def.1 (Array.mem_of_getElem? this.symm))
    obtain ⟨r', g1, g2, g3⟩ := setParts_sound ps qs (xs.set i x.strip) r1 r hps hflat h
    exact ⟨r', g1, g2, by simpa using g3⟩
  | [], _ :: _, _, _, _, h, _, _ => h.elim
  | _ :: _, [], _, _, _, h, _, _ => h.elim

theorem zeros_flat {z : Value} {zp : PV} {size : Nat} (hz : V g w n zp z) (hst : zp.storable = true) (hl : zp.cells.length = size) (hs : size ≠ 0) (len : Nat) :
    Flat g w n size (List.replicate len zp) ((Array.range (len * size)).map (z.cells[· % z.cells.size]!)).toList := by
  obtain ⟨y1, y2, y3⟩ := hz.storable hst
  have hsz : z.cells.size = size := y1.trans hl
  have hget : ∀ k, k < len * size → ((Array.range (len * size)).map (z.cells[· % z.cells.size]!))[k]? = z.cells[k % size]? := by
    intro k hk
    have hm : k % size < z.cells.size := by rw [hsz]; exact Nat.mod_lt _ (by omega)
    simp only [Array.getElem?_map]
    rw [Array.getElem?_range, if_pos hk]
    simp only [Option.map_some, hsz]
    rw [Array.getElem?_eq_getElem hm, getElem!_pos z.cells (k % size) hm]
  refine ⟨by simp, fun i x hi => ?_, fun i x j c hi hj => ?_, fun u hu => ?_⟩
  · rw [List.getElem?_replicate] at hi
    split at hi
    · injection hi with hi; subst hi; exact hl
    · cases hi
  · rw [List.getElem?_replicate] at hi
    split at hi
    · rename_i hil
      injection hi with hi; subst hi
      have hj' : j < size := by rw [← hl]; exact (List.getElem?_eq_some_iff.1 hj).1
      rw [List.getD_eq_getElem?_getD, Array.getElem?_toList, hget _ (idx_lt hil hj'), Nat.mul_comm, Nat.mul_add_mod, Nat.mod_eq_of_lt hj', ← Array.getD_eq_getD_getElem?]
      exact y2 j c hj
    · cases hi
  · obtain ⟨k, hk, rfl⟩ := Array.mem_iff_getElem.1 (Array.mem_def.2 hu)
    have := hget k (by simpa using hk)
    rw [Array.getElem?_eq_getElem hk] at this
    exact y3 _ (Array.mem_of_getElem? this.symm)

theorem new_full (hR : R S w g base bd) {size : Nat} {xs : List PV} {us : Array Value} (hf : Flat g w S.length size xs us.toList) (e : TypeId) :
    Good base bd S g w (.lst xs .full) S false (.slice (some ⟨w.heap.size, 0, none⟩) xs.length xs.length) (w.alloc (.cells us e)) := by
  obtain ⟨h1, h2⟩ := hR.newRow (.cells us e) us.size
  refine ⟨_, ?_, by simpa using h1, h2, Nat.le_refl _⟩
  refine (hf.evo h2).lst (Nat.le_refl _) (fun k hk => ?_) (fun k u hu => ?_) rfl
  · simp only [G.new, if_true]; simpa using hk
  · have := alloc_new w (.cells us e)
    simp only [Nat.zero_add, World.cell?, this]
    rw [Array.getElem?_toList] at hu
    simpa using hu

theorem step_buildSlice (hc : CtxTy P ctx) (hR : R S w g base bd) {t : TypeId} {len : Nat} {ps : List (Nat × PV)} {qs : Array (Nat × Value)} {y : PV} (hp : Parts g w S.length ps qs.toList)
    (h : buildSlicePV ctx t len ps = some y) : ∃ v w', (Instr.buildSlice t len qs).run P w = .ok v w' ∧ Good base bd S g w y S false v w' := by
  unfold buildSlicePV at h
  split at h
  · cases h
  rename_i ti hti
  have ht := hc.ty _ _ hti
  split at h
  case h_2 => cases h
  rename_i e hund
  split at h
  case h_2 => cases h
  rename_i ei hei
  have hte := hc.ty _ _ hei
  split at h
  case isFalse => cases h
  rename_i hn
  obtain ⟨n1, n2, n3, n4⟩ := hn
  cases hs : setParts ei.size (List.replicate len ei.zero) ps with
  | none => simp [hs] at h
  | some r =>
    simp [hs] at h; subst h
    obtain ⟨z, z1, z2, z3⟩ := hte.run_zero w
    have hzf := zeros_flat (absV_sound g w S.length z2) n4 n3 n2 len
    obtain ⟨r', r1, r2, r3⟩ := setParts_sound ps qs.toList _ _ r hp hzf hs
    have hrl : r.length = len := by simpa using r3
    refine ⟨.slice (some ⟨w.heap.size, 0, none⟩) len len, w.alloc (.cells r' e), ?_, ?_⟩
    · simp only [Instr.buildSlice, Sem.run_bind, ht.run_und, hund, Result.andThen_ok, hte.run_size]
      rw [if_neg (by omega)]
      by_cases h0 : len * ei.size = 0
      · have hsame : ((Array.range (len * ei.size)).map fun x => (#[] : Array Value)[x % (#[] : Array Value).size]!) = ((Array.range (len * ei.size)).map (z.cells[· % z.cells.size]!)) :=
          Array.ext (by simp) (fun i h1 _ => by simp [h0] at h1)
        simp only [h0, if_true, Sem.run_bind, Sem.run_pure, Result.andThen_ok]
        rw [h0] at hsame r1
        rw [hsame, r1]
        simp [newRow]
      · simp only [if_neg h0, Sem.run_bind, Sem.run_pure, Result.andThen_ok, z1]
        rw [r1]
        simp [newRow]
    · have := new_full hR r2 e
      rwa [hrl] at this

theorem step_makeSlice (hc : CtxTy P ctx) (hR : R S w g base bd) {t : TypeId} {l c y : PV} {l' c' : Value} {S' : List SObj} (hl : V g w S.length l l') (hc' : V g w S.length c c')
    (h : makeSlicePV ctx t l c S = some (y, S')) : ∃ v w', (Instr.makeSlice t l' c').run P w = .ok v w' ∧ Good base bd S g w y S' false v w' := by
  unfold makeSlicePV at h
  split at h
  case h_2 => cases h
  rename_i ti k n k' m hti
  have ht := hc.ty _ _ hti
  split at h
  case h_2 => cases h
  rename_i e hund
  split at h
  case h_2 => cases h
  rename_i ei hei
  have hte := hc.ty _ _ hei
  split at h
  case isFalse => cases h
  rename_i hn
  obtain ⟨n1, n2, n3, n4, n5, n6, n7⟩ := hn
  subst n2
  injection h with h
  injection h with h1 h2
  subst h1; subst h2
  rw [hl.inv_int, hc'.inv_int]
  obtain ⟨z, z1, z2, z3⟩ := hte.run_zero w
  obtain ⟨i, zi, i1, i2, i3, _⟩ := hte.info
  have hzf := zeros_flat (absV_sound g w S.length z2) n7 n6 n5 n.toNat
  have hw : IntKind.i64.wrap n = n := IntWalk.i64_in n (by omega)
  refine ⟨.slice (some ⟨w.heap.size, 0, none⟩) n.toNat n.toNat, w.alloc (.cells ((Array.range (n.toNat * ei.size)).map (z.cells[· % z.cells.size]!)) e), ?_, ?_⟩
  · have htl : ¬ ((decide (n < 0) || decide ((ei.bytes : Int) * n > 2 ^ 48)) || decide (n < 0) || decide (n > n)) = true := by
      simp; omega
    simp only [Instr.makeSlice, Sem.run_bind, ht.run_und, hund, Result.andThen_ok, asInt, asIntOf, Sem.run_pure, typeInfo, run_program, i1, i3, hw]
    rw [if_neg htl]
    simp only [Sem.run_bind, run_askRoom, Result.andThen_ok, hte.run_size]
    by_cases h0 : n.toNat * ei.size = 0
    · have hsame : ((Array.range (n.toNat * ei.size)).map fun x => (#[] : Array Value)[x % (#[] : Array Value).size]!) = ((Array.range (n.toNat * ei.size)).map (z.cells[· % z.cells.size]!)) :=
        Array.ext (by simp) (fun i h1 _ => by simp [h0] at h1)
      simp only [h0, if_true, Sem.run_bind, Sem.run_pure, Result.andThen_ok]
      rw [h0] at hsame
      rw [hsame]
      simp [newRow]
    · simp only [if_neg h0, Sem.run_bind, Sem.run_pure, Result.andThen_ok, z1]
      simp [newRow]
  · have := new_full hR hzf e
    simpa using this
end
end Go.Pam
