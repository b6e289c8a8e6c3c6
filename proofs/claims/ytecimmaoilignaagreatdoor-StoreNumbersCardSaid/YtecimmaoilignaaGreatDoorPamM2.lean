/- The abstract machine and its soundness, part 2. -/
import Derived.Maps.RangeRun
import Derived.Test.YtecimmaoilignaaGreatDoorPamM1
set_option linter.unusedVariables false
set_option linter.unusedSimpArgs false
namespace Go.Pam
open Go.RowKit
section
variable {P : Program} {ctx : Ctx} {S : List SObj} {g : G} {w : World} {n : Nat} {base : Nat} {bd : Nat → Nat}
theorem new_row0 (hR : R S w g base bd) {size : Nat} {xs : List PV} {us : Array Value} (hf : Flat g w S.length size xs us.toList) (e : TypeId) :
  Good base bd S g w (.rsl S.length xs.length) (S ++ [.row xs size false]) false (.slice (some ⟨w.heap.size, 0, none⟩) xs.length xs.length) (w.alloc (.cells us e)) :=
 new_row hR hf e (cur := us) (rest := []) (by simp) (by simpa using hf.1) (Nat.le_refl _) (fun v hv => by cases hv) (0, 0) (fun i _ h => by omega)
theorem born_buildSlice (hc : CtxTy P ctx) (hR : R S w g base bd) {t : TypeId} {len : Nat} {ps : List (Nat × PV)} {qs : Array (Nat × Value)} {y : List PV} {e0 : TypeId} {ti0 ei0 : TyI} (hti0 : ctx.ty t = some ti0) (hund0 : ti0.und = .slice e0) (hei0 : ctx.ty e0 = some ei0) (hp : Parts g w S.length ps qs.toList)
  (h : buildSlicePV ctx t len ps = some (.lst y .full)) : ∃ v w', (Instr.buildSlice t len qs).run P w = .ok v w' ∧ Good base bd S g w (.rsl S.length y.length) (S ++ [.row y ei0.size false]) false v w' := by
 unfold buildSlicePV at h
 split at h
 ·cases h
 rename_i ti hti
 have ht := hc.ty _ _ hti
 split at h
 case h_2 => cases h
 rename_i e hund
 split at h
 case h_2 => cases h
 rename_i ei hei
 have hte := hc.ty _ _ hei
 split at h
 case isFalse => cases h
 rename_i hn
 obtain ⟨n1, n2, n3, n4⟩ := hn
 cases hs : setParts ei.size (List.replicate len ei.zero) ps with
 | none => simp [hs] at h
 | some r =>
  simp [hs] at h; subst h
  rw [hti0] at hti; injection hti with hti; subst hti
  rw [hund0] at hund; injection hund with hund; subst hund
  rw [hei0] at hei; injection hei with hei; subst hei
  obtain ⟨z, z1, z2, z3⟩ := hte.run_zero w
  have hzf := zeros_flat (absV_sound g w S.length z2) n4 n3 n2 len
  obtain ⟨r', r1, r2, r3⟩ := setParts_sound ps qs.toList _ _ r hp hzf hs
  have hrl : r.length = len := by simpa using r3
  refine ⟨.slice (some ⟨w.heap.size, 0, none⟩) len len, w.alloc (.cells r' e0), ?_, ?_⟩
  ·simp only [Instr.buildSlice, Sem.run_bind, ht.run_und, hund0, Result.andThen_ok, hte.run_size]
   rw [if_neg (by omega)]
   by_cases h0 : len * ei0.size = 0
   ·have hsame : ((Array.range (len * ei0.size)).map fun x => (#[] : Array Value)[x % (#[] : Array Value).size]!) = ((Array.range (len * ei0.size)).map (z.cells[· % z.cells.size]!)) :=
     Array.ext (by simp) (fun i h1 _ => by simp [h0] at h1)
    simp only [h0, if_true, Sem.run_bind, Sem.run_pure, Result.andThen_ok]
    rw [h0] at hsame r1
    rw [hsame, r1]
    simp [newRow]
   ·simp only [if_neg h0, Sem.run_bind, Sem.run_pure, Result.andThen_ok, z1]
    rw [r1]
    simp [newRow]
  ·have := new_row0 hR r2 e0
   rw [hrl] at this ⊢; exact this
theorem born_makeSlice (hc : CtxTy P ctx) (hR : R S w g base bd) {t e : TypeId} {k k' : IntKind} {n m : Int} {ti ei : TyI} {l' c' : Value} (hl : V g w S.length (.int k n) l') (hc' : V g w S.length (.int k' m) c')
  (hti : ctx.ty t = some ti) (hund : ti.und = .slice e) (hei : ctx.ty e = some ei)
  (hn : 0 ≤ n ∧ n ≤ m ∧ ei.bytes * m ≤ 2 ^ 47 ∧ m ≤ 2 ^ 62 ∧ ei.size ≠ 0 ∧ ei.zero.cells.length = ei.size ∧ ei.zero.storable = true) :
  ∃ v w', (Instr.makeSlice t l' c').run P w = .ok v w' ∧ Good base bd S g w (.rsl S.length n.toNat) (S ++ [.row (List.replicate n.toNat ei.zero) ei.size false]) false v w' := by
 have ht := hc.ty _ _ hti
 have hte := hc.ty _ _ hei
 obtain ⟨n1, n2, n3, n4, n5, n6, n7⟩ := hn
 rw [hl.inv_int, hc'.inv_int]
 obtain ⟨z, z1, z2, z3⟩ := hte.run_zero w
 obtain ⟨i, zi, i1, i2, i3, _⟩ := hte.info
 have hzf := zeros_flat (absV_sound g w S.length z2) n7 n6 n5 m.toNat
 have hw : IntKind.i64.wrap n = n := IntWalk.i64_in n (by omega)
 have hwm : IntKind.i64.wrap m = m := IntWalk.i64_in m (by omega)
 refine ⟨.slice (some ⟨w.heap.size, 0, none⟩) n.toNat m.toNat, w.alloc (.cells ((Array.range (m.toNat * ei.size)).map (z.cells[· % z.cells.size]!)) e), ?_, ?_⟩
 ·have htl : ¬ ((decide (m < 0) || decide ((ei.bytes : Int) * m > 2 ^ 48)) || decide (n < 0) || decide (n > m)) = true := by
   simp; omega
  simp only [Instr.makeSlice, Sem.run_bind, ht.run_und, hund, Result.andThen_ok, asInt, asIntOf, Sem.run_pure, typeInfo, run_program, i1, i3, hw, hwm]
  rw [if_neg htl]
  simp only [Sem.run_bind, run_askRoom, Result.andThen_ok, hte.run_size]
  by_cases h0 : m.toNat * ei.size = 0
  ·have hsame : ((Array.range (m.toNat * ei.size)).map fun x => (#[] : Array Value)[x % (#[] : Array Value).size]!) = ((Array.range (m.toNat * ei.size)).map (z.cells[· % z.cells.size]!)) :=
    Array.ext (by simp) (fun i h1 _ => by simp [h0] at h1)
   simp only [h0, if_true, Sem.run_bind, Sem.run_pure, Result.andThen_ok]
   rw [h0] at hsame
   rw [hsame]
   simp [newRow]
  ·simp only [if_neg h0, Sem.run_bind, Sem.run_pure, Result.andThen_ok, z1]
   simp [newRow]
 ·have hle : n.toNat ≤ m.toNat := by omega
  have hz2 := zeros_flat (absV_sound g w S.length z2) n7 n6 n5 n.toNat
  have hsz : ((Array.range (m.toNat * ei.size)).map (z.cells[· % z.cells.size]!)).toList = ((Array.range (n.toNat * ei.size)).map (z.cells[· % z.cells.size]!)).toList ++ (((Array.range (m.toNat * ei.size)).map (z.cells[· % z.cells.size]!)).toList.drop (n.toNat * ei.size)) := by
   have hmul : n.toNat * ei.size ≤ m.toNat * ei.size := Nat.mul_le_mul_right _ hle
   have ht : ((Array.range (n.toNat * ei.size)).map (z.cells[· % z.cells.size]!)).toList = ((Array.range (m.toNat * ei.size)).map (z.cells[· % z.cells.size]!)).toList.take (n.toNat * ei.size) := by
    rw [Array.toList_map, Array.toList_map, ← List.map_take, Array.toList_range, Array.toList_range, List.take_range, Nat.min_eq_left hmul]
   rw [ht, List.take_append_drop]
  have hone : ∀ v ∈ ((Array.range (m.toNat * ei.size)).map (z.cells[· % z.cells.size]!)).toList.drop (n.toNat * ei.size), v.oneCell' = true := fun v hv => hzf.2.2.2 v (List.mem_of_mem_drop hv)
  have := new_row (cap := m.toNat) hR hz2 e hsz (by simp) (by simp only [List.length_replicate]; exact hle) hone (0, 0) (fun i _ h => by omega)
  simpa using this
theorem born_conv (hc : CtxTy P ctx) (hR : R S w g base bd) {src dst : TypeId} {x : PV} {xs : List PV} {id : Nat} {x' : Value} {S' : List SObj} (hx : V g w S.length x x') (h : convPV ctx src dst x S = some (.lst xs (.tip id), S')) :
  ∃ v w', (convert src dst x').run P w = .ok v w' ∧ Good base bd S g w (.rsl S.length xs.length) (S ++ [.row xs 1 false]) false v w' := by
 unfold convPV at h
 split at h
 case h_2 => cases h
 rename_i si di hsi hdi
 have hs := hc.ty _ _ hsi
 have hd := hc.ty _ _ hdi
 split at h
 ·cases h
 ·cases h
 ·-- a string's bytes
  rename_i e s h1 h2
  split at h
  case h_2 => cases h
  rename_i ei hei
  have he := hc.ty _ _ hei
  split at h
  case h_2 => cases h
  rename_i hu8
  injection h with h; injection h with hh1 hh2; injection hh1 with hh1 hh3; subst hh1
  rw [List.length_map]
  obtain ⟨bs, rfl, hb⟩ := hx.inv_str
  have hlen : bs.size = s.length := by rw [← hb]; simp
  let cap := (Question.appendCap bs.size 0 e).cut (w.tape w.drawn (.appendCap bs.size 0 e))
  have hcap : bs.size ≤ cap := by simp [cap, Question.cut]
  let cur : Array Value := (bs.data.map fun b => Value.int .u8 b.toNat) ++ Array.replicate (cap - bs.size) (.int .u8 0)
  have hcs : cur.size = cap := by simp [cur]; omega
  let w0 : World := { w with drawn := w.drawn + 1 }
  have hR0 : R S w0 g base bd := hR.drawn rfl rfl rfl rfl
  have e0 : Evo S.length g w g w0 := Evo.drawn rfl rfl rfl rfl
  have hf : Flat g w0 S.length 1 (s.map fun b => .int .u8 b.toNat) (s.map fun b => .int .u8 b.toNat) := by
   refine ⟨by simp, fun i x hi => ?_, fun i x j c hi hj => ?_, fun u hu => ?_⟩
   ·rw [List.getElem?_map] at hi
    cases hs : s[i]? with
    | none => simp [hs] at hi
    | some b => simp [hs] at hi; subst hi; rfl
   ·rw [List.getElem?_map] at hi
    cases hs : s[i]? with
    | none => simp [hs] at hi
    | some b =>
     simp [hs] at hi; subst hi
     cases j with
     | succ j => simp [PV.cells] at hj
     | zero =>
      simp [PV.cells] at hj; subst hj
      simp [List.getElem?_map, hs]
      exact .int _ _
   ·simp only [List.mem_map] at hu
    obtain ⟨b, _, rfl⟩ := hu
    rfl
  have hcl : cur.toList = (s.map fun b => Value.int .u8 b.toNat) ++ (Array.replicate (cap - bs.size) (Value.int .u8 0)).toList := by
   simp [cur, ← hb]
  obtain ⟨g', k1, k2, k3, k4⟩ := new_row hR0 hf e hcl (by simpa using hcs) (by simpa [hlen] using hcap) (fun v hv => by have := (List.mem_replicate.1 (by simpa using hv : v ∈ List.replicate (cap - bs.size) (Value.int .u8 0))).2; subst this; rfl) (cap, cap + 1) (fun i hi h => by omega)
  have hrun : (convert src dst (.string bs)).run P w = .ok (.slice (some ⟨w0.heap.size, 0, none⟩) bs.size cap) (w0.alloc (.cells cur e (cap, cap + 1))) := by
   have hfz : (w0.alloc (.cells cur e)).freeze { block := w0.heap.size, off := cap } 1 = w0.alloc (.cells cur e (cap, cap + 1)) := by
    unfold World.freeze World.alloc
    simp only [Nat.one_ne_zero, if_false]
    congr 1
    apply Array.ext (by simp)
    intro i hi1 hi2
    simp only [Array.size_modify, Array.size_push] at hi1
    rw [Array.getElem_modify]
    by_cases hi : i = w0.heap.size
    ·subst hi; simp
    ·rw [if_neg (by omega)]
     rw [Array.getElem_push_lt (by omega), Array.getElem_push_lt (by omega)]
   have hsh : (w0.alloc (.cells cur e)).shape? w0.heap.size = some (e, cap) := by
    have := alloc_new w0 (.cells cur e)
    simp only [World.shape?, this, hcs]
   have hq : (Question.appendCap bs.size 0 e).forced = false := rfl
   simp only [convert, Sem.run_bind, hs.run_und, hd.run_und, Result.andThen_ok, h1, h2, he.run_und, hu8, Conv.stringToBytes]
   rw [run_choose, hq, if_neg (by simp), Result.andThen_ok]
   simp only [newRow, Sem.run_bind, run_newObj, Result.andThen_ok, Sem.run_pure]
   show (((markStringish ⟨w0.heap.size, 0, none⟩).run P (w0.alloc (.cells cur e))).andThen _) = _
   simp only [markStringish, Sem.run_bind, run_shape, hsh, Result.andThen_ok, run_freeze, hfz]
   rfl
  simp only [List.length_map] at k1 k2 k4
  rw [hlen] at hrun
  exact ⟨_, _, hrun, g', k1, k2, e0.trans k3, k4⟩
 ·rename_i e xs tag h1 h2
  split at h
  case h_2 => cases h
  split at h
  case h_2 => cases h
  cases hb : convPV.bytesOfPV xs <;> simp [hb] at h
 ·split at h
  case h_2 => cases h
  split at h
  case h_2 => cases h
  cases h
 ·cases h
theorem flat_get {xs : List PV} {sz : Nat} (hc : ∀ x ∈ xs, x.cells.length = sz) : ∀ {i : Nat} {x : PV} {j : Nat} {c : PV}, xs[i]? = some x → x.cells[j]? = some c → (xs.flatMap PV.cells)[i * sz + j]? = some c := by
 induction xs with
 | nil => intro i x j c h; simp at h
 | cons y ys ih =>
  intro i x j c hi hj
  rw [List.flatMap_cons]
  have hy := hc y List.mem_cons_self
  cases i with
  | zero =>
   simp at hi; subst hi
   have hl := (List.getElem?_eq_some_iff.1 hj).1
   rw [Nat.zero_mul, Nat.zero_add, List.getElem?_append_left hl]; exact hj
  | succ i =>
   rw [List.getElem?_append_right (by rw [hy, Nat.add_mul]; omega), hy]
   have e : (i + 1) * sz + j - sz = i * sz + j := by rw [Nat.add_mul]; omega
   rw [e]
   exact ih (fun x hx => hc x (List.mem_cons_of_mem _ hx)) (by simpa using hi) hj
theorem born_alloc (hc : CtxTy P ctx) (hR : R S w g base bd) {t e : TypeId} {n : Nat} {ti ei : TyI} (hti : ctx.ty t = some ti) (hund : ti.und = .array n e) (hei : ctx.ty e = some ei)
  (hs : sameL ti.zero.cells ((List.replicate n ei.zero).flatMap PV.cells) = true) (hl : ei.zero.cells.length = ei.size) (hst : ti.zero.storable = true) :
  ∃ v w', (Instr.alloc t true (.tuple #[])).run P w = .ok v w' ∧ Good base bd S g w (.ptr S.length 0) (S ++ [.row (List.replicate n ei.zero) ei.size false]) false v w' := by
 have ht := hc.ty _ _ hti
 obtain ⟨z, hz, hz2, hz3⟩ := ht.run_zero w
 obtain ⟨y1, y2, y3⟩ := (absV_sound g w S.length hz2).storable hst
 have hcells := sameL_eq _ _ hs
 have hall : ∀ x ∈ List.replicate n ei.zero, x.cells.length = ei.size := fun x hx => by rw [(List.mem_replicate.1 hx).2]; exact hl
 have hlen : ∀ (xs : List PV), (∀ x ∈ xs, x.cells.length = ei.size) → (xs.flatMap PV.cells).length = xs.length * ei.size := by
  intro xs
  induction xs with
  | nil => intro _; simp
  | cons y ys ih => intro h; rw [List.flatMap_cons, List.length_append, h y List.mem_cons_self, ih (fun x hx => h x (List.mem_cons_of_mem _ hx)), List.length_cons, Nat.add_mul]; omega
 have hzl : z.cells.size = n * ei.size := by rw [y1, hcells, hlen _ hall, List.length_replicate]
 have hf : Flat g w S.length ei.size (List.replicate n ei.zero) z.cells.toList := by
  refine ⟨by simpa using hzl, fun i x hi => hall x (List.mem_of_getElem? hi), fun i x j c hi hj => ?_, fun u hu => y3 u (Array.mem_def.2 hu)⟩
  have := flat_get hall hi hj
  rw [← hcells] at this
  rw [getD_toList]
  exact y2 _ c this
 obtain ⟨g', k1, k2, k3, k4⟩ := new_row (cap := n) hR hf t (cur := z.cells) (rest := []) (by simp) hzl (by simp) (fun v hv => by cases hv) (0, 0) (fun i _ h => by omega)
 refine ⟨.pointer (some ⟨w.heap.size, 0, none⟩), w.alloc (.cells z.cells t), ?_, g', ?_, k2, k3, k4⟩
 ·simp [Instr.alloc, hz, newVar, newRow]
 ·obtain ⟨q1, q2, q3, q4⟩ := k1.inv_rsl
  have := V.ptr (g := g') (w := w.alloc (.cells z.cells t)) (n := (S ++ [SObj.row (List.replicate n ei.zero) ei.size false]).length) S.length 0 q3 q4
  injection q1 with q1 _ _
  injection q1 with q1
  rw [q1]; exact this
theorem born_bld (hc : CtxTy P ctx) (hR : R S w g base bd) {t : TypeId} {ti : TyI} (hti : ctx.ty t = some ti) (hz0 : PV.same ti.zero (.agg [.nilp, .nils]) = true) :
  ∃ v w', (Instr.alloc t true (.tuple #[])).run P w = .ok v w' ∧ Good base bd S g w (.ptr S.length 0) (S ++ [.bld t false none]) false v w' := by
 have ht := hc.ty _ _ hti
 obtain ⟨z, hz, hz2, _⟩ := ht.run_zero w
 have hV := absV_sound g w S.length hz2
 rw [PV.same_eq _ _ hz0] at hV
 obtain ⟨cs', rfl, hl, h1, _⟩ := hV.inv_agg
 have e0 := h1 0 .nilp rfl
 have e1 := h1 1 .nils rfl
 have hcs : cs' = #[.pointer none, .slice none 0 0] := by
  have h2 : cs'.size = 2 := by simpa using hl.symm
  obtain ⟨a, b, rfl⟩ : ∃ a b, cs' = #[a, b] := by
   match cs', h2 with
   | ⟨[a, b]⟩, _ => exact ⟨a, b, rfl⟩
  cases e0 with
  | nilp => cases e1 with
   | nils => rfl
 subst hcs
 have hpp := hR.hpp w.heap.size (Nat.le_refl _)
 have hgB := hR.hfix
 have evo : Evo S.length g w (g.new S.length w.heap.size 0 0 0 true) (w.alloc (.cells #[.pointer none, .slice none 0 0] t)) := Evo.newBlock _ (Nat.le_refl _) hpp hgB
 refine ⟨.pointer (some ⟨w.heap.size, 0, none⟩), w.alloc (.cells #[.pointer none, .slice none 0 0] t), ?_, g.new S.length w.heap.size 0 0 0 true, ?_, ?_, evo, by simp⟩
 ·simp [Instr.alloc, hz, newVar, newRow, Value.cells]
 ·have := V.ptr (g := g.new S.length w.heap.size 0 0 0 true) (w := w.alloc (.cells #[.pointer none, .slice none 0 0] t)) (n := (S ++ [SObj.bld t false none]).length) S.length 0 (by simp) (by simp [G.new])
  simpa [G.new] using this
 ·simp only [Bool.false_eq_true, if_false]
  refine hR.newBlock _ _ ⟨by simp [G.new], ?_, by simp [G.new], (fun j n h => by cases h), ?_⟩
  ·intro hk
   have hk' : g.fix w.heap.size := by simpa [G.new] using hk
   have := hR.hfix _ hk'
   omega
  ·have := alloc_new w (.cells #[.pointer none, .slice none 0 0] t)
   simp only [G.new, if_true, bufVal, Bool.false_eq_true, if_false]
   exact this
theorem R.freeze (h : R S w g base bd) {id : Nat} {xs : List PV} {sz : Nat} {fz : Bool} (hs : S[id]? = some (.row xs sz fz)) :
  ∃ g', R (S.set id (.row xs sz true)) w g' base bd ∧ Evo S.length g w g' w ∧ V g' w S.length (.lst xs .none) (.slice (some ⟨g.loc id, 0, none⟩) xs.length (g.hw id)) := by
 obtain ⟨l1, l2, l3, cur, t, fr, l4, l5, l6, l7, l8, l9, l10⟩ := h.live id _ hs
 have hid := R.lt h hs
 have hle : xs.length * sz ≤ g.hw id * sz := Nat.mul_le_mul_right _ l5
 have hlt : g.loc id < w.heap.size := (Array.getElem?_eq_some_iff.1 l4).1
 let g' : G := { g with pp := fun k => if k = g.loc id then xs.length * sz else g.pp k }
 have hpp : ∀ k, g.pp k ≤ g'.pp k := by
  intro k
  simp only [g']
  split
  ·rename_i hk; subst hk; rw [l3]; split
   ·exact Nat.le_refl _
   ·exact Nat.zero_le _
  ·exact Nat.le_refl _
 have oth : ∀ (k : Nat) (o : SObj), S[k]? = some o → o ≠ .dead → k ≠ id → g.loc k ≠ g.loc id := fun k o hk hd hne e => hne (h.inj k id o _ hk hs hd (by simp) e)
 have evo : Evo S.length g w g' w := by
  refine ⟨hpp, fun _ _ _ => rfl, fun _ _ => rfl, fun _ _ _ => rfl, fun _ _ => rfl, fun _ _ => Nat.le_refl _, fun _ _ _ => rfl, fun k cap hk hob _ ht => ?_, Nat.le_refl _, rfl, fun _ _ => rfl, fun k hk => ?_, rfl, rfl, rfl⟩
  ·obtain ⟨o, ho⟩ : ∃ o, S[k]? = some o := ⟨_, List.getElem?_eq_getElem hk⟩
   have hd : o ≠ .dead := by
    rintro rfl
    have := h.live k _ ho
    simp [Live, hob] at this
   have hki : k ≠ id := by rintro rfl; rw [l1] at hob; cases hob
   exact TipC.heap (g := g) rfl rfl rfl (by simp only [g']; rw [if_neg (oth k o ho hd hki)]) rfl ht
  ·simp only [g']; rw [if_neg (by rintro rfl; exact l2 hk)]
 have hlst : V g' w (lim base bd S.length id) (.lst xs .none) (.slice (some ⟨g.loc id, 0, none⟩) xs.length (g.hw id)) := by
  have lt : ∀ (i : Nat) (x : PV) (j : Nat), xs[i]? = some x → j < sz → i * sz + j < xs.length * sz := fun i x j hi hj => idx_lt (List.getElem?_eq_some_iff.1 hi).1 hj
  have jl : ∀ (i : Nat) (x : PV) (j : Nat) (c : PV), xs[i]? = some x → x.cells[j]? = some c → j < sz := fun i x j c hi hj => by
   rw [← l9 i x hi]; exact (List.getElem?_eq_some_iff.1 hj).1
  refine .lst xs .none (g.loc id) 0 (g.hw id) sz (fun i j => cur.getD (i * sz + j) undef) l5 l9 (fun i x j c hi hj => ?_) (fun i x j c hi hj => ?_) (fun i x j c hi hj => (l10 i x j c hi hj).evo (evo.mono (lim_le h id))) (fun i x j hi hj => ?_) trivial
  ·simp only [g', if_true]
   have := lt i x j hi (jl i x j c hi hj); omega
  ·have := lt i x j hi (jl i x j c hi hj)
   have hin : i * sz + j < cur.size := by omega
   simp [World.cell?, l4, hin]
  ·have := lt i x j hi hj
   have hin : i * sz + j < cur.size := by omega
   simp only [Array.getD_eq_getD_getElem?, Array.getElem?_eq_getElem hin, Option.getD_some]
   exact l7 _ (Array.getElem_mem _)
 refine ⟨g', ⟨by simpa using h.hbase, h.hbd, h.hfix, fun b hb => ?_, fun k q hk => ?_, fun i k p q hi hk hp hq hloc => ?_⟩, evo, hlst.mono (lim_le h id)⟩
 ·simp only [g']; rw [if_neg (by omega)]; exact h.hpp b hb
 ·rw [List.length_set]
  by_cases hki : k = id
  ·subst hki
   rw [List.getElem?_set_self hid] at hk
   injection hk with hk; subst hk
   exact ⟨l1, l2, by simp [g'], cur, t, fr, l4, l5, l6, l7, l8, l9, fun i x j c hi hj => (l10 i x j c hi hj).evo (evo.mono (lim_le h k))⟩
  ·rw [List.getElem?_set_ne (Ne.symm hki)] at hk
   have hl := h.live k q hk
   refine hl.evo (evo.mono (lim_le h k)) rfl rfl rfl rfl (fun hd _ => ⟨rfl, ?_⟩)
   simp only [g']; rw [if_neg (oth k q hk hd hki)]
 ·have aux : ∀ (m : Nat) (q : SObj), (S.set id (.row xs sz true))[m]? = some q → q ≠ .dead → ∃ q', S[m]? = some q' ∧ q' ≠ .dead := by
   intro m q hm hq
   by_cases hmi : m = id
   ·subst hmi; exact ⟨_, hs, by simp⟩
   ·rw [List.getElem?_set_ne (Ne.symm hmi)] at hm
    exact ⟨q, hm, hq⟩
  obtain ⟨p', h1, h2⟩ := aux i p hi hp
  obtain ⟨q', h3, h4⟩ := aux k q hk hq
  exact h.inj i k p' q' h1 h3 h2 h4 hloc
theorem frzQ_len {v v' : PV} {S S' : List SObj} (h : frzQ v S = some (v', S')) : S'.length = S.length := by
 unfold frzQ at h
 split at h
 ·split at h
  ·split at h
   ·injection h with h; injection h with h1 h2; subst h2; simp
   ·cases h
  ·cases h
 ·injection h with h; injection h with h1 h2; subst h2; rfl
 ·cases h
theorem frzQ_sound (h : R S w g base bd) {v v' : PV} {S' : List SObj} {u : Value} (hv : V g w S.length v u) (hq : frzQ v S = some (v', S')) :
  ∃ g', R S' w g' base bd ∧ Evo S.length g w g' w ∧ V g' w S.length v' u := by
 unfold frzQ at hq
 split at hq
 ·rename_i id len
  split at hq
  ·rename_i xs sz fz hs
   split at hq
   ·rename_i hl
    injection hq with hq; injection hq with h1 h2; subst h1; subst h2
    obtain ⟨rfl, _, _, _⟩ := hv.inv_rsl
    subst hl
    exact h.freeze hs
   ·cases hq
  ·cases hq
 ·injection hq with hq; injection hq with h1 h2; subst h1; subst h2
  obtain ⟨a, rfl⟩ := hv.inv_emp
  exact ⟨g, h, Evo.refl _ _ _, .lst0 a⟩
 ·cases hq
theorem frz1_len (v : PV) (S : List SObj) : (frz1 v S).2.length = S.length := by
 unfold frz1
 cases h : frzQ v S with
 | none => rfl
 | some q => exact frzQ_len h
theorem frz1_sound (h : R S w g base bd) {v : PV} {u : Value} (hv : V g w S.length v u) :
  ∃ g', R (frz1 v S).2 w g' base bd ∧ Evo S.length g w g' w ∧ V g' w S.length (frz1 v S).1 u := by
 unfold frz1
 cases hq : frzQ v S with
 | none => exact ⟨g, h, Evo.refl _ _ _, hv⟩
 | some q => exact frzQ_sound h hv hq
theorem frzL_len : ∀ (vs : List PV) (S : List SObj), (frzL vs S).2.length = S.length ∧ (frzL vs S).1.length = vs.length
 | [], S => ⟨rfl, rfl⟩
 | v :: vs, S => by
  obtain ⟨h1, h2⟩ := frzL_len vs (frz1 v S).2
  simp only [frzL]
  exact ⟨h1.trans (frz1_len v S), by simpa using h2⟩
theorem frzL_sound : ∀ (vs : List PV) (us : List Value) (S : List SObj) (g : G), R S w g base bd → vs.length = us.length → (∀ (i : Nat) (c : PV), vs[i]? = some c → V g w S.length c (us.getD i undef)) →
  ∃ g', R (frzL vs S).2 w g' base bd ∧ Evo S.length g w g' w ∧ ∀ (i : Nat) (c : PV), (frzL vs S).1[i]? = some c → V g' w S.length c (us.getD i undef)
 | [], us, S, g, h, hl, hV => ⟨g, h, Evo.refl _ _ _, fun i c hi => by simp [frzL] at hi⟩
 | v :: vs, [], S, g, h, hl, hV => by simp at hl
 | v :: vs, u :: us, S, g, h, hl, hV => by
  obtain ⟨g1, r1, e1, v1⟩ := frz1_sound h (hV 0 v rfl)
  have hlen := frz1_len v S
  obtain ⟨g2, r2, e2, v2⟩ := frzL_sound vs us (frz1 v S).2 g1 r1 (by simpa using hl) (fun i c hi => by
   rw [hlen]
   have := hV (i + 1) c (by simpa using hi)
   exact (by simpa using this : V g w S.length c (us.getD i undef)).evo e1)
  rw [hlen] at e2
  refine ⟨g2, r2, e1.trans e2, fun i c hi => ?_⟩
  cases i with
  | zero =>
   simp [frzL] at hi; subst hi
   simpa using v1.evo e2
  | succ i =>
   have := v2 i c (by simpa [frzL] using hi)
   rw [hlen] at this
   simpa using this
theorem frzT_len : ∀ (xs : List Operand) (σ : Nat → PV) (S : List SObj), (frzT xs σ S).2.length = S.length
 | [], _, _ => rfl
 | .tmp t :: xs, σ, S => by
  simp only [frzT]
  split
  ·rename_i v S1 h
   exact (frzT_len xs _ _).trans (frzQ_len h)
  ·exact frzT_len xs _ _
 | .const _ :: xs, σ, S => frzT_len xs σ S
 | .global _ :: xs, σ, S => frzT_len xs σ S
 | .func _ :: xs, σ, S => frzT_len xs σ S
theorem Slots.upd {σ : Nat → PV} {tmps : Array Value} (h : Slots g w n σ tmps) {t : Nat} {v : PV} (hv : V g w n v (tmps.getD t undef)) : Slots g w n (upd σ (some t) v) tmps := by
 intro i
 simp only [Go.Pam.upd]
 split
 ·rename_i hi; subst hi; exact hv
 ·exact h i
theorem frzT_sound {tmps : Array Value} : ∀ (xs : List Operand) (σ : Nat → PV) (S : List SObj) (g : G), R S w g base bd → Slots g w S.length σ tmps →
  ∃ g', R (frzT xs σ S).2 w g' base bd ∧ Evo S.length g w g' w ∧ Slots g' w S.length (frzT xs σ S).1 tmps
 | [], σ, S, g, h, hs => ⟨g, h, Evo.refl _ _ _, hs⟩
 | .tmp t :: xs, σ, S, g, h, hs => by
  simp only [frzT]
  split
  ·rename_i v S1 hq
   obtain ⟨g1, r1, e1, v1⟩ := frzQ_sound h (hs t) hq
   have hlen := frzQ_len hq
   have hs1 : Slots g1 w S1.length (Go.Pam.upd σ (some t) v) tmps := by rw [hlen]; exact (hs.evo e1).upd v1
   obtain ⟨g2, r2, e2, s2⟩ := frzT_sound xs _ _ g1 r1 hs1
   rw [hlen] at e2 s2
   exact ⟨g2, r2, e1.trans e2, s2⟩
  ·exact frzT_sound xs σ S g h hs
 | .const _ :: xs, σ, S, g, h, hs => frzT_sound xs σ S g h hs
 | .global _ :: xs, σ, S, g, h, hs => frzT_sound xs σ S g h hs
 | .func _ :: xs, σ, S, g, h, hs => frzT_sound xs σ S g h hs
theorem born_append (hc : CtxTy P ctx) (hR : R S w g base bd) {ts : Array TypeId} {ty : TypeId} {x : PV} {args : Array Value} {A : Option Addr} {x' : Value} {y : PV} {S' : List SObj} (h0 : args[0]? = some (.slice A 0 0)) (h1 : args[1]? = some x')
  (hx : V g w S.length x x') (h : birthPV.bornApp ctx ts x S = some (y, S')) (hne : listOf x ≠ some []) : ∃ v w', (Builtin.append_ ts ty args).run P w = .ok v w' ∧ Good base bd S g w y S' false v w' := by
 unfold birthPV.bornApp at h
 split at h
 case h_2 => cases h
 rename_i xs _ S1 happ
 split at h
 case h_2 => cases h
 rename_i hw sz hS1
 injection h with h; injection h with hh1 hh2; subst hh1; subst hh2
 unfold appendPV at happ
 split at happ
 case h_2 => cases happ
 rename_i t u ht0 ht1
 split at happ
 case h_2 => cases happ
 rename_i ti ui ys hti hui hys
 split at happ
 ·cases happ
 case h_3 => cases happ
 rename_i e hund hnum'
 have hnum : ∀ k, ui.und ≠ .int k := fun k hk => by simp_all
 split at happ
 ·cases happ
 rename_i ei hei
 split at happ
 ·rename_i hemp
  have : ys = [] := by simpa using hemp
  subst this
  exact absurd hys hne
 rename_i hyne
 have hyne' : ys ≠ [] := by simpa using hyne
 split at happ
 ·cases happ
 rename_i hn
 simp only [not_or, Bool.not_eq_false, Decidable.not_not] at hn
 obtain ⟨n1, n2, n3, n4, n5⟩ := hn
 have hyl : 0 < ys.length := by cases ys with | nil => exact absurd rfl hyne' | cons => simp
 obtain ⟨new, l1, l2, l3⟩ := listOf_cells (P := P) hx hys n1 hyne'
 simp only at happ
 split at happ
 case isFalse => cases happ
 rename_i hb
 injection happ with happ; injection happ with hh1 hh2
 injection hh1 with hh1 hh3
 subst hh1; subst hh2
 have hsz : sz = ei.size := by
  rw [List.getElem?_append_right (Nat.le_refl _), Nat.sub_self] at hS1
  simp at hS1
  exact hS1.2.symm
 subst hsz
 obtain ⟨newCap, w0, cur, rest, q1, q2, q3, q4, q5, q6, q7, q9, q8⟩ := append_grow (ty := ty) (old := []) (len := 0) (cap := 0) (m := ys.length) hc ht0 ht1 hti hui hei hund hnum h0 h1 l1 l2
  (fun w' _ => by cases A <;> simp [Builtin.firstCells, loadCells, loadCellsFrom]) (by omega) n3 (by simpa using hb) n5
 have hR0 := hR.drawn q2 q3 q4 q5
 have e0 : Evo S.length g w g w0 := Evo.drawn q2 q3 q4 q5
 have hf := (l3.evo e0)
 rw [List.nil_append] at q6
 have hcs : cur.size = newCap * ei.size := by
  have : cur.toList.length = newCap * ei.size := by
   rw [q6, List.length_append, hf.1, q7, ← Nat.add_mul]; congr 1; omega
  simpa using this
 obtain ⟨g', k1, k2, k3, k4⟩ := new_row hR0 hf e q6 hcs (by omega) (q9 n4) (0, 0) (fun i _ h => by omega)
 rw [Nat.zero_add] at q8
 exact ⟨_, _, q8, g', k1, k2, e0.trans k3, k4⟩
end
end Go.Pam
namespace Go.Pam
open Go.RowKit
section
variable {S : List SObj} {w w' : World} {g : G} {base : Nat} {bd : Nat → Nat}
theorem R.touch (h : R S w g base bd) {id : Nat} {o o' : SObj} (hs : S[id]? = some o) (ho : o ≠ .dead) (hobj : g.obj id = true) (hfx : ¬ g.fix (g.loc id)) (hpp : g.pp (g.loc id) = 0)
  (hoth : ∀ k, k < w.heap.size → k ≠ g.loc id → w'.heap[k]? = w.heap[k]?) (hsz : w.heap.size ≤ w'.heap.size) (hos : w'.os = w.os) (htp : w'.tape = w.tape) (hout : w'.output = w.output)
  (hl : Evo (lim base bd S.length id) g w g w' → Live w' g (lim base bd S.length id) id o') (n : Nat) (hn : n ≤ S.length) :
  R (S.set id o') w' g base bd ∧ Evo n g w g w' := by
 have evo : ∀ m, m ≤ S.length → Evo m g w g w' := fun m hm => by
  refine ⟨fun _ => Nat.le_refl _, fun b o hb => ?_, fun _ _ => rfl, fun _ _ _ => rfl, fun _ _ => rfl, fun _ _ => Nat.le_refl _, fun _ _ _ => rfl, fun k cap hk hob _ ht => ?_, hsz, rfl, fun k hk => hoth k (h.hfix k hk) (by rintro rfl; exact hfx hk), fun _ _ => rfl, hos, htp, hout⟩
  ·have hb' : b < w.heap.size := by
    rcases Nat.lt_or_ge b w.heap.size with hb' | hb'
    ·exact hb'
    ·have := h.hpp b hb'; omega
   exact cell?_of_heap (hoth b hb' (by rintro rfl; omega)) o
  ·obtain ⟨q, hq⟩ : ∃ q, S[k]? = some q := ⟨_, List.getElem?_eq_getElem (show k < S.length by omega)⟩
   have hd : q ≠ .dead := by rintro rfl; have := h.live k _ hq; simp [Live, hob] at this
   have hne : g.loc k ≠ g.loc id := fun e => by have := h.inj k id q o hq hs hd ho e; subst this; rw [hob] at hobj; cases hobj
   exact TipC.heap (g := g) rfl rfl rfl rfl (hoth _ ht.lt hne) ht
 refine ⟨⟨by simpa using h.hbase, h.hbd, fun k hk => by have := h.hfix k hk; omega, fun b hb => h.hpp b (by omega), ?_, ?_⟩, evo n hn⟩
 ·intro k q hk
  rw [List.length_set]
  by_cases hki : k = id
  ·subst hki
   rw [List.getElem?_set_self (R.lt h hs)] at hk
   injection hk with hk; subst hk
   exact hl (evo _ (lim_le h k))
  ·rw [List.getElem?_set_ne (Ne.symm hki)] at hk
   exact (h.live k q hk).evo (evo _ (lim_le h k)) rfl rfl rfl rfl (fun hd _ => ⟨hoth _ ((h.live k q hk).loc_lt hd) (fun e => hki (h.inj k id q o hk hs hd ho e)), rfl⟩)
 ·intro i k q p hi hk hq hp hloc
  have aux : ∀ (m : Nat) (q : SObj), (S.set id o')[m]? = some q → q ≠ .dead → ∃ q', S[m]? = some q' ∧ q' ≠ .dead := by
   intro m q hm hq
   by_cases hmi : m = id
   ·subst hmi; exact ⟨_, hs, ho⟩
   ·rw [List.getElem?_set_ne (Ne.symm hmi)] at hm; exact ⟨q, hm, hq⟩
  obtain ⟨o1, h1, h2⟩ := aux i q hi hq
  obtain ⟨p', h3, h4⟩ := aux k p hk hp
  exact h.inj i k o1 p' h1 h3 h2 h4 hloc
end
section
variable {P : Program} {ctx : Ctx} {S : List SObj} {g : G} {w : World} {base : Nat} {bd : Nat → Nat} {n : Nat}
theorem run_getObjM {r : Nat} {es : Array MapEntry} {c : Nat} (h : w.heap[r]? = some (.map es c)) : (getObj r).run P w = .ok (.map es c) w := by simp [getObj, Sem.run, h]
theorem run_setObjM {r : Nat} {es : Array MapEntry} {c : Nat} (o : Obj) (h : w.heap[r]? = some (.map es c)) : (setObj r o).run P w = .ok () { w with heap := w.heap.setIfInBounds r o } := by simp [setObj, Sem.run, h]
theorem keyEq_sound {kd : TypeDesc} {a b : PV} {x y : Value} {r : Bool} (ha : V g w n a x) (hb : V g w n b y) (h : keyEq kd a b = some r) : Go.Instr.sameNow kd x y = some r := by
 unfold keyEq at h
 split at h
 ·rw [ha.inv_int, hb.inv_int]
  unfold Go.Instr.sameNow
  exact h
 ·obtain ⟨s, rfl, rfl⟩ := ha.inv_str
  obtain ⟨t, rfl, rfl⟩ := hb.inv_str
  rw [← ba_beq] at h
  exact h
 ·rw [ha.inv_bool, hb.inv_bool]
  exact h
 ·cases h
def FoundR (g : G) (w : World) (n i len : Nat) : Option (Nat × PV) → Option (Nat × Value) → Prop
 | none, none => True
 | some (a, v), some (b, v') => a = b ∧ V g w n v v' ∧ i ≤ a ∧ a < i + len
 | _, _ => False
theorem findK_sound {kd : TypeDesc} {k : PV} {k' : Value} (hk : V g w n k k') : ∀ (es : List (PV × PV)) (es' : List MapEntry) (i : Nat) (r : Option (Nat × PV)), es'.length = es.length →
  (∀ (j : Nat) (kv : PV × PV), es[j]? = some kv → ∃ e, es'[j]? = some e ∧ V g w n kv.1 e.key ∧ V g w n kv.2 e.val) → findK kd k es i = some r →
  ∃ r', Go.Instr.findNow kd k' es' i = some r' ∧ FoundR g w n i es.length r r'
 | [], es', i, r, hl, _, h => by
  obtain rfl : es' = [] := by cases es' <;> simp_all
  simp only [findK, Option.some.injEq] at h
  subst h
  exact ⟨none, rfl, trivial⟩
 | e :: es, es', i, r, hl, hV, h => by
  cases es' with
  | nil => simp at hl
  | cons e' es' =>
   obtain ⟨x, hx, h1, h2⟩ := hV 0 e rfl
   simp only [List.getElem?_cons_zero, Option.some.injEq] at hx
   subst hx
   simp only [findK] at h
   cases hq : keyEq kd k e.1 with
   | none => rw [hq] at h; cases h
   | some b =>
    have hs := keyEq_sound hk h1 hq
    rw [hq] at h
    cases b with
    | true =>
     simp only [Option.some.injEq] at h
     subst h
     exact ⟨some (i, e'.val), by simp [Go.Instr.findNow, hs], rfl, h2, Nat.le_refl _, by simp⟩
    | false =>
     simp only at h
     obtain ⟨r', h3, h4⟩ := findK_sound hk es es' (i + 1) r (by simpa using hl) (fun j kv hj => by
      obtain ⟨x, hx, q⟩ := hV (j + 1) kv (by simpa using hj)
      exact ⟨x, by simpa using hx, q⟩) h
     refine ⟨r', by simp [Go.Instr.findNow, hs, h3], ?_⟩
     cases r with
     | none =>
      cases r' with
      | none => trivial
      | some b => exact h4.elim
     | some a =>
      cases r' with
      | none => exact h4.elim
      | some b => exact ⟨h4.1, h4.2.1, by have := h4.2.2.1; omega, by have := h4.2.2.2; simp only [List.length_cons]; omega⟩
theorem checkKey_plain {kt : TypeId} {kd : TypeDesc} {b : Bool} {k : Value} (hu : P.underlying kt = some kd) (hp : plainKind kd = true) (m : Nat) : (Go.Instr.checkKey b (m + 1) kt k).run P w = .ok () w := by
 cases kd <;> simp [plainKind] at hp <;> simp [Go.Instr.checkKey, underlying, hu]
theorem findKey_plain {kt : TypeId} {kd : TypeDesc} {k' : Value} {es' : List MapEntry} {r' : Option (Nat × Value)} (hu : P.underlying kt = some kd) (h : Go.Instr.findNow kd k' es' 0 = some r') : (Go.Instr.findKey kt k' es').run P w = .ok r' w := by
 simp [Go.Instr.findKey, underlying, hu, h]
/-! Keys that are structs of whole numbers -/
theorem ints_same : ∀ {xs ys : List PV}, sameInts xs ys = true → xs.length = ys.length ∧ ∀ (i : Nat) (x y : PV), xs[i]? = some x → ys[i]? = some y → ∃ k n, x = .int k n ∧ y = .int k n
 | [], [], _ => ⟨rfl, fun i x y hi => by simp at hi⟩
 | a :: xs, b :: ys, h => by
  unfold sameInts at h
  split at h
  case h_1 q1 q2 => cases q1
  case h_3 => cases h
  case h_2 k u xs' l v ys' q1 q2 =>
   injection q1 with q1 q1'; injection q2 with q2 q2'
   subst q1 q1' q2 q2'
   simp only [Bool.and_eq_true, beq_iff_eq] at h
   obtain ⟨⟨rfl, rfl⟩, h⟩ := h
   obtain ⟨h1, h2⟩ := ints_same h
   refine ⟨by simpa using h1, fun i x y hi hj => ?_⟩
   rcases i with _ | i
   ·simp at hi hj; subst hi; subst hj; exact ⟨_, _, rfl, rfl⟩
   ·exact h2 i x y (by simpa using hi) (by simpa using hj)
 | [], _ :: _, h => by simp [sameInts] at h
 | _ :: _, [], h => by unfold sameInts at h; split at h <;> simp_all
theorem keyEqD_sound (hc : CtxTy P ctx) {kt : TypeId} {a b : PV} {x y : Value} {r : Bool} (ha : V g w n a x) (hb : V g w n b y) (h : keyEqD ctx kt a b = some r) : (Op.equal kt x y).run P w = .ok r w := by
 unfold keyEqD at h
 split at h
 case h_2 => cases h
 split at h
 ·rename_i he
  split at h
  case isFalse => cases h
  injection h with h; subst h
  exact eqIn_sound hc 40 kt _ _ x y true Op.maxDepth (by decide) ha hb he
 ·rename_i he
  injection h with h; subst h
  exact eqIn_sound hc 40 kt _ _ x y false Op.maxDepth (by decide) ha hb he
 ·cases h
theorem keyEqD_same {kt : TypeId} {a b : PV} {x y : Value} (ha : V g w n a x) (hb : V g w n b y) (h : keyEqD ctx kt a b = some true) : x = y ∧ Go.Instr.sameBits 10000 x x = true := by
 unfold keyEqD at h
 split at h
 case h_2 => cases h
 rename_i xs ys
 split at h
 case h_2 => cases h
 case h_3 => cases h
 split at h
 case isFalse => cases h
 rename_i hs
 obtain ⟨xs', rfl, x1, x2, x3⟩ := ha.inv_agg
 obtain ⟨ys', rfl, y1, y2, y3⟩ := hb.inv_agg
 obtain ⟨h1, h2⟩ := ints_same hs
 have each : ∀ (i : Nat), i < xs'.size → ∃ k m, xs'[i]? = some (.int k m) ∧ ys'[i]? = some (.int k m) := by
  intro i hi
  obtain ⟨k, m, e1, e2⟩ := h2 i _ _ (List.getElem?_eq_getElem (show i < xs.length by omega)) (List.getElem?_eq_getElem (show i < ys.length by omega))
  have p1 := x2 i _ (List.getElem?_eq_getElem (show i < xs.length by omega))
  have p2 := y2 i _ (List.getElem?_eq_getElem (show i < ys.length by omega))
  rw [e1] at p1; rw [e2] at p2
  have q1 := p1.inv_int
  have q2 := p2.inv_int
  refine ⟨k, m, ?_, ?_⟩
  ·rw [Array.getD_eq_getD_getElem?] at q1
   rw [Array.getElem?_eq_getElem hi] at q1 ⊢
   simpa using q1
  ·rw [Array.getD_eq_getD_getElem?] at q2
   rw [Array.getElem?_eq_getElem (show i < ys'.size by omega)] at q2 ⊢
   simpa using q2
 have hxy : xs' = ys' := by
  apply Array.ext (by omega)
  intro i hi hj
  obtain ⟨k, m, e1, e2⟩ := each i hi
  rw [Array.getElem?_eq_getElem hi] at e1
  rw [Array.getElem?_eq_getElem hj] at e2
  injection e1 with e1; injection e2 with e2
  rw [e1, e2]
 refine ⟨by rw [hxy], ?_⟩
 show Go.Instr.sameBits (9999 + 1) (.agg xs') (.agg xs') = true
 simp only [Go.Instr.sameBits, beq_self_eq_true, Bool.true_and, List.all_eq_true]
 intro p hp
 obtain ⟨i, hi, e⟩ := List.getElem_of_mem hp
 rw [List.getElem_zip] at e
 rw [← e]
 have hi' : i < xs'.size := by simpa using hi
 obtain ⟨k, m, e1, _⟩ := each i hi'
 rw [Array.getElem?_eq_getElem hi'] at e1
 injection e1 with e1
 simp [e1, Go.Instr.sameBits]
theorem findD_sound (hc : CtxTy P ctx) {kt : TypeId} {k : PV} {k' : Value} (hk : V g w n k k') : ∀ (es : List (PV × PV)) (es' : List MapEntry) (i : Nat) (r : Option (Nat × PV)), es'.length = es.length →
  (∀ (j : Nat) (kv : PV × PV), es[j]? = some kv → ∃ e, es'[j]? = some e ∧ V g w n kv.1 e.key ∧ V g w n kv.2 e.val) → findD ctx kt k es i = some r →
  ∃ r', (Go.Instr.findAsking kt k' es' i).run P w = .ok r' w ∧ FoundR g w n i es.length r r' ∧
   (∀ j v, r = some (j, v) → i ≤ j ∧ ∃ e kq, es'[j - i]? = some e ∧ r' = some (j, e.val) ∧ es[j - i]? = some (kq, v) ∧ keyEqD ctx kt k kq = some true)
 | [], es', i, r, hl, _, h => by
  obtain rfl : es' = [] := by cases es' <;> simp_all
  simp only [findD, Option.some.injEq] at h
  subst h
  exact ⟨none, rfl, trivial, fun j v hj => by cases hj⟩
 | e :: es, es', i, r, hl, hV, h => by
  cases es' with
  | nil => simp at hl
  | cons e' es' =>
   obtain ⟨x, hx, h1, h2⟩ := hV 0 e rfl
   simp only [List.getElem?_cons_zero, Option.some.injEq] at hx
   subst hx
   simp only [findD] at h
   cases hq : keyEqD ctx kt k e.1 with
   | none => rw [hq] at h; cases h
   | some b =>
    have hs := keyEqD_sound hc hk h1 hq
    rw [hq] at h
    cases b with
    | true =>
     simp only [Option.some.injEq] at h
     subst h
     refine ⟨some (i, e'.val), by simp [Go.Instr.findAsking, hs], ⟨rfl, h2, Nat.le_refl _, by simp⟩, fun j v hj => ?_⟩
     injection hj with hj; injection hj with hj1 hj2
     subst hj1; subst hj2
     exact ⟨Nat.le_refl _, e', e.1, by simp, rfl, by simp, hq⟩
    | false =>
     simp only at h
     obtain ⟨r', h3, h4, h5⟩ := findD_sound hc hk es es' (i + 1) r (by simpa using hl) (fun j kv hj => by
      obtain ⟨x, hx, q⟩ := hV (j + 1) kv (by simpa using hj)
      exact ⟨x, by simpa using hx, q⟩) h
     refine ⟨r', by simp [Go.Instr.findAsking, hs, h3], ?_, fun j v hj => ?_⟩
     ·cases r with
      | none =>
       cases r' with
       | none => trivial
       | some b => exact h4.elim
      | some a =>
       cases r' with
       | none => exact h4.elim
       | some b => exact ⟨h4.1, h4.2.1, by have := h4.2.2.1; omega, by have := h4.2.2.2; simp only [List.length_cons]; omega⟩
     ·obtain ⟨q0, e0, kq, q1, q2, q3, q4⟩ := h5 j v hj
      refine ⟨by omega, e0, kq, ?_, q2, ?_, q4⟩ <;>
      ·rw [show j - i = (j - (i + 1)) + 1 by omega]
       simpa using by assumption
theorem checkKey_deep (hc : CtxTy P ctx) {kt : TypeId} {ki : TyI} {b : Bool} {k : PV} {k' : Value} (hki : ctx.ty kt = some ki) (hk : V g w n k k') (hp : deepKind ctx ki.und k = true) (m : Nat) : (Go.Instr.checkKey b (m + 2) kt k').run P w = .ok () w := by
 unfold deepKind at hp
 split at hp
 case h_2 => cases hp
 rename_i fs cs hund
 simp only [Bool.and_eq_true] at hp
 obtain ⟨cs', rfl, x1, x2, x3⟩ := hk.inv_agg
 have ht := hc.ty _ _ hki
 rw [show m + 2 = (m + 1) + 1 from rfl, Go.Instr.checkKey]
 simp only [Sem.run_bind, underlying, run_program, Result.andThen_ok, ht.und, hund, Sem.run_pure]
 rw [← Array.forIn_toList]
 have hp2 := hp.2
 generalize fs.toList = L at hp2
 induction L with
 | nil => simp
 | cons f L ih =>
  simp only [flatTy, Bool.and_eq_true, bne_iff_ne, ne_eq, decide_eq_true_eq] at hp2
  obtain ⟨⟨⟨hn, ho⟩, hty⟩, hrest⟩ := hp2
  split at hty
  case h_2 => cases hty
  rename_i ti hti
  simp only [Bool.and_eq_true, Bool.not_eq_true'] at hty
  have hpt : partOf ctx f.type cs f.offset = some cs[f.offset] := by
   simp [partOf, hti, hty.1, List.getElem?_eq_getElem ho]
  obtain ⟨v, p1, p2⟩ := part_sound (P := P) hc x1 x2 x3 hpt
  have p3 : (Go.Instr.checkKey b (m + 1) f.type v).run P w = .ok () w := checkKey_plain (hc.ty _ _ hti).und hty.2 m
  simp only [List.forIn_cons, Sem.run_bind, hn, ne_eq, not_false_eq_true, if_true, Result.andThen_ok, p1, p3, Sem.run_pure]
  exact ih hrest
theorem findKey_deep (hc : CtxTy P ctx) {kt : TypeId} {ki : TyI} {k : PV} {k' : Value} {es' : List MapEntry} {r' : Option (Nat × Value)} (hki : ctx.ty kt = some ki) (hp : deepKind ctx ki.und k = true)
  (h : (Go.Instr.findAsking kt k' es' 0).run P w = .ok r' w) : (Go.Instr.findKey kt k' es').run P w = .ok r' w := by
 unfold deepKind at hp
 split at hp
 case h_2 => cases hp
 rename_i fs cs hund
 have hu : P.underlying kt = some (.struct fs) := by rw [(hc.ty _ _ hki).und, hund]
 cases es' with
 | nil => simpa [Go.Instr.findKey, underlying, hu, Go.Instr.findNow, Go.Instr.findAsking] using h
 | cons e es => simp [Go.Instr.findKey, underlying, hu, Go.Instr.findNow, Go.Instr.sameNow, h]
theorem ints_clean : ∀ {cs : List PV}, isInts cs = true → cleanL cs = true
 | [], _ => rfl
 | c :: cs, h => by
  unfold isInts at h
  split at h
  case h_1 q => cases q
  case h_3 => cases h
  case h_2 q =>
   injection q with q1 q2; subst q1 q2
   show (true && cleanL cs) = true
   rw [ints_clean h]; rfl
theorem mapOf_sound (hR : R S w g base bd) {m : PV} {m' : Value} (hm : V g w S.length m m') {es : List (PV × PV)} (h : mapOf S m = some es) : ∃ es' : Array MapEntry, es'.size = es.length ∧
  (∀ (j : Nat) (kv : PV × PV), es[j]? = some kv → ∃ e, es'[j]? = some e ∧ V g w S.length kv.1 e.key ∧ V g w S.length kv.2 e.val) ∧
  (m' = .map none ∧ es' = #[] ∨ ∃ id c, m' = .map (some (g.loc id)) ∧ w.heap[g.loc id]? = some (.map es' c)) := by
 unfold mapOf at h
 split at h
 ·injection h with h; subst h
  exact ⟨#[], rfl, fun j kv hj => by simp at hj, .inl ⟨hm.inv_nilm, rfl⟩⟩
 ·rename_i id
  split at h
  ·rename_i es0 hes
   injection h with h; subst h
   obtain ⟨rfl, h1, h2⟩ := hm.inv_map
   obtain ⟨l1, l2, l3, es', l4, l5, l6⟩ := hR.live id _ hes
   have hle := lim_le hR id
   exact ⟨es', l5, fun j kv hj => by obtain ⟨e, q1, _, q2, q3⟩ := l6 j kv hj; exact ⟨e, q1, q2.mono hle, q3.mono hle⟩, .inr ⟨id, _, rfl, l4⟩⟩
  ·cases h
 ·cases h
theorem step_lookup (hc : CtxTy P ctx) (hR : R S w g base bd) {t : TypeId} {m k x : PV} {m' k' : Value} {ok : Bool} (hm : V g w S.length m m') (hk : V g w S.length k k') (h : lookupPV ctx t m k ok S = some x) :
    ∃ v, (Instr.lookup t m' k' ok).run P w = .ok v w ∧ V g w S.length x v := by
  unfold lookupPV at h
  split at h
  case h_2 => cases h
  rename_i ti hti
  split at h
  case h_2 => cases h
  rename_i kt et hund
  split at h
  case h_2 => cases h
  rename_i ki ei es hki hei hes
  have ht := hc.ty _ _ hti
  have htk := hc.ty _ _ hki
  have hte := hc.ty _ _ hei
  have hu : P.underlying t = some (.map kt et) := by rw [ht.und, hund]
  obtain ⟨es', e1, e2, e3⟩ := mapOf_sound hR hm hes
  have e2' : ∀ (j : Nat) (kv : PV × PV), es[j]? = some kv → ∃ e, es'.toList[j]? = some e ∧ V g w S.length kv.1 e.key ∧ V g w S.length kv.2 e.val := fun j kv hj => by
    obtain ⟨e, q1, q2, q3⟩ := e2 j kv hj
    exact ⟨e, by simpa using q1, q2, q3⟩
  obtain ⟨z, z1, z2, _⟩ := hte.run_zero w
  have hz := absV_sound g w S.length z2
  have fin : ∀ (r : Option (Nat × PV)) (r' : Option (Nat × Value)), FoundR g w S.length 0 es.length r r' → (∀ b, (Go.Instr.checkKey b 10000 kt k').run P w = .ok () w) → (Go.Instr.findKey kt k' es'.toList).run P w = .ok r' w →
      (let (v, b) := match r with
        | some (_, v) => (v, true)
        | none => (ei.zero, false)
       if ok then PV.tup [v, .bool b] else v) = x → ∃ v, (Instr.lookup t m' k' ok).run P w = .ok v w ∧ V g w S.length x v := by
    intro r r' f2 hck hfk h
    have hrun : (Instr.lookup t m' k' ok).run P w = .ok (match r' with | some (_, v) => if ok then .tuple #[v, .bool true] else v | none => if ok then .tuple #[z, .bool false] else z) w := by
      rcases e3 with ⟨rfl, rfl⟩ | ⟨id, c, rfl, hw⟩
      · cases r' <;> cases ok <;> simp [Instr.lookup, underlying, hu, hck, hfk, z1]
      · have hg : (getObj (g.loc id)).run P w = .ok (.map es' c) w := by simp [getObj, Sem.run, hw]
        cases r' <;> cases ok <;> simp [Instr.lookup, underlying, hu, hck, hfk, hg, z1]
    rw [hrun]
    cases r with
    | none =>
      cases r' with
      | some b => exact f2.elim
      | none =>
        cases ok with
        | false => exact ⟨z, rfl, by simpa [← h] using hz⟩
        | true =>
          refine ⟨.tuple #[z, .bool false], rfl, ?_⟩
          simp only [if_true] at h
          subst h
          exact .tup _ _ rfl (fun i c hi => by
            rcases i with _ | _ | i
            · simp at hi; subst hi; exact hz
            · simp at hi; subst hi; exact .bool _
            · simp at hi)
    | some a =>
      cases r' with
      | none => exact f2.elim
      | some b =>
        obtain ⟨_, q, _, _⟩ := f2
        cases ok with
        | false => exact ⟨b.2, rfl, by simpa [← h] using q⟩
        | true =>
          refine ⟨.tuple #[b.2, .bool true], rfl, ?_⟩
          simp only [if_true] at h
          subst h
          exact .tup _ _ rfl (fun i c hi => by
            rcases i with _ | _ | i
            · simp at hi; subst hi; exact q
            · simp at hi; subst hi; exact .bool _
            · simp at hi)
  split at h
  · rename_i hp
    cases hf : findK ki.und k es 0 with
    | none => rw [hf] at h; cases h
    | some r =>
      rw [hf] at h
      obtain ⟨r', f1, f2⟩ := findK_sound hk es es'.toList 0 r (by simpa using e1) e2' hf
      simp only [Option.map_some, Option.some.injEq] at h
      exact fin r r' f2 (fun b => checkKey_plain htk.und hp 9999) (findKey_plain htk.und f1) h
  · split at h
    case isFalse => cases h
    rename_i hp
    cases hf : findD ctx kt k es 0 with
    | none => rw [hf] at h; cases h
    | some r =>
      rw [hf] at h
      obtain ⟨r', f1, f2, _⟩ := findD_sound (P := P) hc hk es es'.toList 0 r (by simpa using e1) e2' hf
      simp only [Option.map_some, Option.some.injEq] at h
      exact fin r r' f2 (fun b => checkKey_deep hc hki hk hp 9998) (findKey_deep hc hki hp f1) h
theorem step_makeMap (hc : CtxTy P ctx) (hR : R S w g base bd) {t kt et : TypeId} {ti : TyI} (hti : ctx.ty t = some ti) (hu : ti.und = .map kt et) :
  ∃ v w', (Instr.makeMap t none).run P w = .ok v w' ∧ Good base bd S g w (.map S.length) (S ++ [.map []]) false v w' := by
 have hpp := hR.hpp w.heap.size (Nat.le_refl _)
 have hgB := hR.hfix
 have evo : Evo S.length g w (g.new S.length w.heap.size 0 0 0 true) (w.alloc (.map #[] 0)) := Evo.newBlock _ (Nat.le_refl _) hpp hgB
 refine ⟨.map (some w.heap.size), w.alloc (.map #[] 0), rfl, g.new S.length w.heap.size 0 0 0 true, ?_, ?_, evo, by simp⟩
 ·have := V.map (g := g.new S.length w.heap.size 0 0 0 true) (w := w.alloc (.map #[] 0)) (n := (S ++ [SObj.map []]).length) S.length (by simp) (by simp [G.new])
  simpa [G.new] using this
 ·simp only [Bool.false_eq_true, if_false]
  refine hR.newBlock _ _ ⟨by simp [G.new], ?_, by simp [G.new], #[], ?_, rfl, fun j c hj => by simp at hj⟩
  ·intro hk
   have hk' : g.fix w.heap.size := by simpa [G.new] using hk
   have := hR.hfix _ hk'
   omega
  ·have := alloc_new w (.map #[] 0)
   have e : (g.new S.length w.heap.size 0 0 0 true).loc S.length = w.heap.size := by simp [G.new]
   rw [e]; exact this
theorem keyEq_same {kd : TypeDesc} {a b : PV} {x y : Value} (ha : V g w n a x) (hb : V g w n b y) (h : keyEq kd a b = some true) : x = y ∧ ∀ k, Go.Instr.sameBits k x x = true := by
 unfold keyEq at h
 split at h
 ·rename_i k p l q
  split at h
  case isFalse => cases h
  rename_i hkl
  subst hkl
  simp only [Option.some.injEq, beq_iff_eq] at h
  subst h
  rw [ha.inv_int, hb.inv_int]
  exact ⟨rfl, fun k => by cases k <;> simp [Go.Instr.sameBits]⟩
 ·simp only [Option.some.injEq, beq_iff_eq] at h
  subst h
  obtain ⟨s, rfl, h1⟩ := ha.inv_str
  obtain ⟨t, rfl, h2⟩ := hb.inv_str
  have : s = t := by
   have : s.data.toList = t.data.toList := by rw [h1, h2]
   cases s; cases t
   simp only [ByteArray.mk.injEq]
   exact Array.toList_inj.1 this
  subst this
  have hb : (s == s) = true := by rw [ba_beq]; simp
  exact ⟨rfl, fun k => by cases k <;> simp [Go.Instr.sameBits, hb]⟩
 ·simp only [Option.some.injEq, beq_iff_eq] at h
  subst h
  rw [ha.inv_bool, hb.inv_bool]
  exact ⟨rfl, fun k => by cases k <;> simp [Go.Instr.sameBits]⟩
 ·cases h
theorem findK_at {kd : TypeDesc} {k : PV} : ∀ (es : List (PV × PV)) (i : Nat) (j : Nat) (v : PV), findK kd k es i = some (some (j, v)) → i ≤ j ∧ ∃ k', es[j - i]? = some (k', v) ∧ keyEq kd k k' = some true
 | [], i, j, v, h => by simp [findK] at h
 | e :: es, i, j, v, h => by
  simp only [findK] at h
  cases hq : keyEq kd k e.1 with
  | none => rw [hq] at h; cases h
  | some b =>
   rw [hq] at h
   cases b with
   | true =>
    simp only [Option.some.injEq, Prod.mk.injEq] at h
    obtain ⟨rfl, rfl⟩ := h
    exact ⟨Nat.le_refl _, e.1, by simp, hq⟩
   | false =>
    obtain ⟨h1, k', h2, h3⟩ := findK_at es (i + 1) j v h
    refine ⟨by omega, k', ?_, h3⟩
    rw [show j - i = (j - (i + 1)) + 1 by omega]
    simpa using h2
structure AtR (P : Program) (S : List SObj) (g : G) (w : World) (t : TypeId) (m' k' : Value) (id : Nat) (et : TypeId) (es : List (PV × PV)) (es' : Array MapEntry) (r : Option (Nat × PV)) (r' : Option (Nat × Value)) : Prop where
 und : ∃ kt, P.underlying t = some (.map kt et) ∧ (Go.Instr.checkKey false 10000 kt k').run P w = .ok () w ∧ (Go.Instr.findKey kt k' es'.toList).run P w = .ok r' w
 here : m' = .map (some (g.loc id))
 obj : S[id]? = some (.map es)
 heap : w.heap[g.loc id]? = some (.map es' es.length)
 size : es'.size = es.length
 found : FoundR g w S.length 0 es.length r r'
 old : ∀ i v, r = some (i, v) → ∃ e : MapEntry, es'[i]? = some e ∧ e.key = k' ∧ e.born = i ∧ r' = some (i, e.val) ∧ Go.Instr.sameBits 10000 k' k' = true ∧ ∃ kq, es[i]? = some (kq, v)
theorem atMap_sound (hc : CtxTy P ctx) (hR : R S w g base bd) {t : TypeId} {m k : PV} {m' k' : Value} (hm : V g w S.length m m') (hk : V g w S.length k k') {id : Nat} {et : TypeId} {es : List (PV × PV)} {r : Option (Nat × PV)}
  (h : atMap ctx t m k S = some (id, et, es, r)) : ∃ es' r', AtR P S g w t m' k' id et es es' r r' ∧ (k.clean = true ∧ k.storable = true) := by
 unfold atMap at h
 split at h
 case h_2 => cases h
 rename_i ti id0 hti
 split at h
 case h_2 => cases h
 rename_i kt et0 hund
 split at h
 case h_2 => cases h
 rename_i ki es0 hki hes
 split at h
 rotate_left
 ·split at h
  case isFalse => cases h
  rename_i hp
  simp only [Bool.and_eq_true, beq_iff_eq] at hp
  cases hf : findD ctx kt k es0 0 with
  | none => rw [hf] at h; cases h
  | some r0 =>
   rw [hf] at h
   simp only [Option.map_some, Option.some.injEq, Prod.mk.injEq] at h
   obtain ⟨rfl, rfl, rfl, rfl⟩ := h
   have ht := hc.ty _ _ hti
   obtain ⟨rfl, i1, i2⟩ := hm.inv_map
   obtain ⟨l1, l2, l3, es', l4, l5, l6⟩ := hR.live id0 _ hes
   have hle := lim_le hR id0
   obtain ⟨r', f1, f2, f3⟩ := findD_sound (P := P) hc hk es0 es'.toList 0 r0 (by simpa using l5) (fun j kv hj => by
    obtain ⟨e, q1, _, q2, q3⟩ := l6 j kv hj
    exact ⟨e, by simpa using q1, q2.mono hle, q3.mono hle⟩) hf
   refine ⟨es', r', ⟨⟨kt, by rw [ht.und, hund], checkKey_deep hc hki hk hp.1 9998, findKey_deep hc hki hp.1 f1⟩, rfl, hes, l4, l5, f2, ?_⟩, ?_⟩
   ·rintro i v rfl
    obtain ⟨_, e, kq, g1, g2, g3, g4⟩ := f3 i v rfl
    simp only [Nat.sub_zero] at g1 g3
    obtain ⟨e0, q1, q0, q2, q3⟩ := l6 i _ g3
    simp only [Array.getElem?_toList] at g1
    rw [q1] at g1
    injection g1 with g1
    subst g1
    obtain ⟨e1, e2⟩ := keyEqD_same hk (q2.mono hle) g4
    exact ⟨e0, q1, e1.symm, q0, g2, e2, kq, g3⟩
   ·have := hp.1
    unfold deepKind at this
    split at this
    case h_2 => cases this
    simp only [Bool.and_eq_true] at this
    exact ⟨ints_clean this.1, rfl⟩
 rename_i hp
 simp only [Bool.and_eq_true, beq_iff_eq] at hp
 cases hf : findK ki.und k es0 0 with
 | none => rw [hf] at h; cases h
 | some r0 =>
  rw [hf] at h
  simp only [Option.map_some, Option.some.injEq, Prod.mk.injEq] at h
  obtain ⟨rfl, rfl, rfl, rfl⟩ := h
  have ht := hc.ty _ _ hti
  have htk := hc.ty _ _ hki
  obtain ⟨rfl, i1, i2⟩ := hm.inv_map
  obtain ⟨l1, l2, l3, es', l4, l5, l6⟩ := hR.live id0 _ hes
  have hle := lim_le hR id0
  obtain ⟨r', f1, f2⟩ := findK_sound hk es0 es'.toList 0 r0 (by simpa using l5) (fun j kv hj => by
   obtain ⟨e, q1, _, q2, q3⟩ := l6 j kv hj
   exact ⟨e, by simpa using q1, q2.mono hle, q3.mono hle⟩) hf
  refine ⟨es', r', ⟨⟨kt, by rw [ht.und, hund], checkKey_plain htk.und hp.1 9999, findKey_plain htk.und f1⟩, rfl, hes, l4, l5, f2, ?_⟩, ?_⟩
  ·rintro i v rfl
   obtain ⟨_, kq, h2, h3⟩ := findK_at es0 0 i v hf
   simp only [Nat.sub_zero] at h2
   obtain ⟨e, q1, q0, q2, q3⟩ := l6 i _ h2
   obtain ⟨e1, e2⟩ := keyEq_same hk (q2.mono hle) h3
   refine ⟨e, q1, e1.symm, q0, ?_, e2 _, kq, h2⟩
   have e2' := e2
   have key : ∀ (l : List (PV × PV)) (l' : List MapEntry) (i0 : Nat) (z : Nat × PV) (z' : Option (Nat × Value)), findK ki.und k l i0 = some (some z) → Go.Instr.findNow ki.und k' l' i0 = some z' → l'.length = l.length →
     (∀ (j : Nat) (kv : PV × PV), l[j]? = some kv → ∃ e, l'[j]? = some e ∧ V g w S.length kv.1 e.key ∧ V g w S.length kv.2 e.val) → ∃ e, l'[z.1 - i0]? = some e ∧ z' = some (z.1, e.val) ∧ i0 ≤ z.1 := by
    intro l
    induction l with
    | nil => intro l' i0 z z' h1; simp [findK] at h1
    | cons a l ih =>
     intro l' i0 z z' h1 h2 h3 h4
     cases l' with
     | nil => simp at h3
     | cons a' l' =>
      obtain ⟨x, x1, x2, x3⟩ := h4 0 a rfl
      simp only [List.getElem?_cons_zero, Option.some.injEq] at x1
      subst x1
      simp only [findK] at h1
      simp only [Go.Instr.findNow] at h2
      cases hq : keyEq ki.und k a.1 with
      | none => rw [hq] at h1; cases h1
      | some b =>
       rw [hq] at h1
       rw [keyEq_sound hk x2 hq] at h2
       cases b with
       | true =>
        simp only [Option.some.injEq] at h1 h2
        subst h1; subst h2
        exact ⟨a', by simp, rfl, Nat.le_refl _⟩
       | false =>
        obtain ⟨e, y1, y2, y3⟩ := ih l' (i0 + 1) z z' h1 h2 (by simpa using h3) (fun j kv hj => by
         obtain ⟨x, hx, q⟩ := h4 (j + 1) kv (by simpa using hj)
         exact ⟨x, by simpa using hx, q⟩)
        refine ⟨e, ?_, y2, by omega⟩
        rw [show z.1 - i0 = (z.1 - (i0 + 1)) + 1 by omega]
        simpa using y1
   obtain ⟨e', y1, y2, _⟩ := key es0 es'.toList 0 (i, v) r' hf f1 (by simpa using l5) (fun j kv hj => by
    obtain ⟨e, q1, _, q2, q3⟩ := l6 j kv hj
    exact ⟨e, by simpa using q1, q2.mono hle, q3.mono hle⟩)
   simp only [Nat.sub_zero, Array.getElem?_toList] at y1
   rw [q1] at y1
   injection y1 with y1
   subst y1
   exact y2
  ·have := hp.2
   unfold keyEq at this
   split at this <;> first | exact ⟨rfl, rfl⟩ | cases this
theorem R.putMap (hR : R S w g base bd) {id : Nat} {es es2 : List (PV × PV)} {es' es2' : Array MapEntry} (hs : S[id]? = some (.map es)) (hheap : w.heap[g.loc id]? = some (.map es' es.length))
  (hsz : es2'.size = es2.length) (hV : ∀ (j : Nat) (kv : PV × PV), es2[j]? = some kv → ∃ e, es2'[j]? = some e ∧ e.born = j ∧ V g w (lim base bd S.length id) kv.1 e.key ∧ V g w (lim base bd S.length id) kv.2 e.val) (n : Nat) (hn : n ≤ S.length) :
  R (S.set id (.map es2)) { w with heap := w.heap.setIfInBounds (g.loc id) (.map es2' es2.length) } g base bd ∧ Evo n g w g { w with heap := w.heap.setIfInBounds (g.loc id) (.map es2' es2.length) } := by
 obtain ⟨l1, l2, l3, cur, l4, l5, l6⟩ := hR.live id _ hs
 have hlt : g.loc id < w.heap.size := (Array.getElem?_eq_some_iff.1 hheap).1
 refine hR.touch (w' := { w with heap := w.heap.setIfInBounds (g.loc id) (.map es2' es2.length) }) hs (by simp) l1 l2 l3 (fun k hk hne => ?_) (by simp) rfl rfl rfl (fun evo => ?_) n hn
 ·simp [Array.getElem?_setIfInBounds, Ne.symm hne]
 ·refine ⟨l1, l2, l3, es2', ?_, hsz, fun j kv hj => ?_⟩
  ·simp [Array.getElem?_setIfInBounds, hlt]
  ·obtain ⟨e, q1, q2, q3, q4⟩ := hV j kv hj
   exact ⟨e, q1, q2, q3.evo evo, q4.evo evo⟩
theorem V.lim (hR : R S w g base bd) {id : Nat} {x : PV} {v : Value} (hx : V g w S.length x v) (hcl : id < base → x.clean = true) : V g w (lim base bd S.length id) x v := by
 unfold Go.Pam.lim
 split
 ·rename_i hlt
  exact (hx.clean (hcl hlt)).mono (Nat.zero_le _)
 ·exact hx
theorem step_mapUpdate (hc : CtxTy P ctx) (hR : R S w g base bd) {base' : Nat} (hb : base = 0 ∨ base = base') {t : TypeId} {m k x : PV} {m' k' x' : Value} (hm : V g w S.length m m') (hk : V g w S.length k k') (hx : V g w S.length x x') {S' : List SObj} {e : Bool}
  (h : mapUpdPV ctx base' t m k x S = some (S', e)) : ∃ w', (Instr.mapUpdate t m' k' x').run P w = .ok () w' ∧ Good base bd S g w (.tup []) S' e undef w' := by
 have fin : ∀ (id : Nat) (es es2 : List (PV × PV)) (es' es2' : Array MapEntry), S[id]? = some (.map es) → w.heap[g.loc id]? = some (.map es' es.length) → es2'.size = es2.length →
   (∀ base'', (base'' = 0 ∨ x.clean = true ∨ ¬ id < base'') → R S w g base'' bd → ∀ (j : Nat) (kv : PV × PV), es2[j]? = some kv → ∃ e, es2'[j]? = some e ∧ e.born = j ∧ V g w (lim base'' bd S.length id) kv.1 e.key ∧ V g w (lim base'' bd S.length id) kv.2 e.val) →
   ∀ e, e = (decide (id < base') && !x.clean) → Good base bd S g w (.tup []) (S.set id (.map es2)) e undef { w with heap := w.heap.setIfInBounds (g.loc id) (.map es2' es2.length) } := by
  intro id es es2 es' es2' h1 h2 h3 h4 e he
  cases e with
  | true =>
   obtain ⟨k1, k2⟩ := (R.weaken hR).putMap h1 h2 h3 (h4 0 (.inl rfl) (R.weaken hR)) S.length (Nat.le_refl _)
   exact ⟨g, .tup [] _ rfl (fun i c hi => by simp at hi), by simpa using k1, k2, by simp⟩
  | false =>
   obtain ⟨k1, k2⟩ := hR.putMap h1 h2 h3 (h4 base (by
    rcases hb with hb | hb
    ·exact .inl hb
    ·subst hb
     have := he.symm
     simp only [Bool.and_eq_false_iff, decide_eq_false_iff_not, Bool.not_eq_false'] at this
     rcases this with h | h
     ·exact .inr (.inr h)
     ·exact .inr (.inl h)) hR) S.length (Nat.le_refl _)
   exact ⟨g, .tup [] _ rfl (fun i c hi => by simp at hi), by simpa using k1, k2, by simp⟩
 have lim2 : ∀ (id base'' : Nat), (base'' = 0 ∨ x.clean = true ∨ ¬ id < base'') → R S w g base'' bd → V g w (lim base'' bd S.length id) x x' := by
  intro id base'' hcase hR''
  refine V.lim hR'' hx (fun hlt => ?_)
  rcases hcase with h | h | h
  ·omega
  ·exact h
  ·exact absurd hlt h
 unfold mapUpdPV at h
 split at h
 case h_3 => cases h
 ·rename_i id et es i v hat
  injection h with h; injection h with h1 h2; subst h1
  obtain ⟨es', r', A, kc, ks⟩ := atMap_sound (P := P) hc hR hm hk hat
  obtain ⟨kt, u1, u2, u3⟩ := A.und
  obtain ⟨ent, o1, o2, o3, o4, o5, kq, o6⟩ := A.old i v rfl
  have hil : i < es'.size := (Array.getElem?_eq_some_iff.1 o1).1
  refine ⟨{ w with heap := w.heap.setIfInBounds (g.loc id) (.map (es'.modify i fun e => { e with key := k', val := x' }) es.length) }, ?_, ?_⟩
  ·have hkey : (((es'[i]?).map (·.key)).getD k') = k' := by rw [o1]; simpa using o2
   rw [A.here]
   simp only [Instr.mapUpdate, Sem.run_bind, underlying, run_program, Result.andThen_ok, u1, run_getObjM A.heap, u2, u3, o4, Go.Instr.keyThatStays, hkey, o5, if_true, Sem.run_pure, run_setObjM _ A.heap]
  ·have := fin id es (es.set i (k, x)) es' (es'.modify i fun e => { e with key := k', val := x' }) A.obj A.heap (by simpa using A.size) ?_ e h2.symm
   ·simpa using this
   ·intro base'' hcase hR'' j kv hj
    have hlive := hR''.live id _ A.obj
    obtain ⟨_, _, _, cur, q1, q2, q3⟩ := hlive
    rw [A.heap] at q1
    injection q1 with q1; injection q1 with q1
    subst q1
    by_cases hji : j = i
    ·subst hji
     rw [List.getElem?_set_self (by have := A.size; omega)] at hj
     injection hj with hj; subst hj
     refine ⟨{ ent with key := k', val := x' }, ?_, o3, ?_, ?_⟩
     ·simp [Array.getElem?_modify, o1]
     ·exact V.lim hR'' hk (fun _ => kc)
     ·exact lim2 id base'' hcase hR''
    ·rw [List.getElem?_set_ne (Ne.symm hji)] at hj
     obtain ⟨e, p1, p2, p3, p4⟩ := q3 j kv hj
     exact ⟨e, by simp [Array.getElem?_modify, Ne.symm hji, p1], p2, p3, p4⟩
 ·rename_i id et es hat
  injection h with h; injection h with h1 h2; subst h1
  obtain ⟨es', r', A, kc, ks⟩ := atMap_sound (P := P) hc hR hm hk hat
  obtain ⟨kt, u1, u2, u3⟩ := A.und
  have hr' : r' = none := by
   have := A.found
   cases r' with
   | none => rfl
   | some z => exact this.elim
  subst hr'
  refine ⟨{ w with heap := w.heap.setIfInBounds (g.loc id) (.map (es'.push { key := k', val := x', born := es.length }) (es.length + 1)) }, ?_, ?_⟩
  ·rw [A.here]
   simp only [Instr.mapUpdate, Sem.run_bind, underlying, run_program, Result.andThen_ok, u1, run_getObjM A.heap, u2, u3, Sem.run_pure, run_setObjM _ A.heap]
  ·have := fin id es (es ++ [(k, x)]) es' (es'.push { key := k', val := x', born := es.length }) A.obj A.heap (by simp [A.size]) ?_ e h2.symm
   ·simpa using this
   ·intro base'' hcase hR'' j kv hj
    have hlive := hR''.live id _ A.obj
    obtain ⟨_, _, _, cur, q1, q2, q3⟩ := hlive
    rw [A.heap] at q1
    injection q1 with q1; injection q1 with q1
    subst q1
    rcases Nat.lt_or_ge j es.length with hjl | hjl
    ·rw [List.getElem?_append_left hjl] at hj
     obtain ⟨e, p1, p2, p3, p4⟩ := q3 j kv hj
     exact ⟨e, by rw [Array.getElem?_push_lt (by rw [A.size]; exact hjl)]; rw [← p1]; exact (Array.getElem?_eq_getElem _).symm, p2, p3, p4⟩
    ·have hje : j = es.length := by
      have := (List.getElem?_eq_some_iff.1 hj).1
      simp at this; omega
     subst hje
     simp at hj; subst hj
     exact ⟨_, by have h := Array.getElem?_push_size (xs := es') (x := { key := k', val := x', born := es.length }); rw [A.size] at h; exact h, rfl, V.lim hR'' hk (fun _ => kc), lim2 id base'' hcase hR''⟩
theorem tup2 {n : Nat} {a b : PV} {x y : Value} (ha : V g w n a x) (hb : V g w n b y) : V g w n (.tup [a, b]) (.tuple #[x, y]) :=
 .tup _ _ rfl (fun i c hi => by
  rcases i with _ | _ | i
  ·simp at hi; subst hi; exact ha
  ·simp at hi; subst hi; exact hb
  ·simp at hi)
theorem step_mapEntry (hc : CtxTy P ctx) (hR : R S w g base bd) {t : TypeId} {m k x : PV} {m' k' : Value} (hm : V g w S.length m m') (hk : V g w S.length k k') {S' : List SObj}
  (h : mapEntryPV ctx t m k S = some (x, S')) : ∃ v w', (Instr.mapEntry t m' k').run P w = .ok v w' ∧ Good base bd S g w x S' false v w' := by
 unfold mapEntryPV at h
 split at h
 case h_3 => cases h
 ·rename_i id et es i v hat
  injection h with h; injection h with h1 h2; subst h1; subst h2
  obtain ⟨es', r', A, kc, ks⟩ := atMap_sound (P := P) hc hR hm hk hat
  obtain ⟨kt, u1, u2, u3⟩ := A.und
  obtain ⟨ent, o1, o2, o3, o4, o5, kq, o6⟩ := A.old i v rfl
  have hil : i < es'.size := (Array.getElem?_eq_some_iff.1 o1).1
  have hlive := hR.live id _ A.obj
  obtain ⟨_, _, _, cur, q1, q2, q3⟩ := hlive
  rw [A.heap] at q1
  injection q1 with q1; injection q1 with q1
  subst q1
  obtain ⟨ent', p1, p2, p3, p4⟩ := q3 i _ o6
  rw [o1] at p1
  injection p1 with p1
  subst p1
  have hbb : (((es'[i]?).map fun x => (x.born : Int)).getD 0) = (i : Int) := by rw [o1]; simp [o3]
  obtain ⟨k1, k2⟩ := hR.putMap (es2 := es.set i (k, v)) (es2' := es'.modify i fun e => { e with key := k' }) A.obj A.heap (by simpa using A.size) (fun j kv hj => by
    by_cases hji : j = i
    ·subst hji
     rw [List.getElem?_set_self (by have := A.size; omega)] at hj
     injection hj with hj; subst hj
     refine ⟨{ ent with key := k' }, ?_, o3, ?_, p4⟩
     ·simp [Array.getElem?_modify, o1]
     ·exact V.lim hR hk (fun _ => kc)
    ·rw [List.getElem?_set_ne (Ne.symm hji)] at hj
     obtain ⟨e, p1, p2, p3, p4⟩ := q3 j kv hj
     exact ⟨e, by simp [Array.getElem?_modify, Ne.symm hji, p1], p2, p3, p4⟩) S.length (Nat.le_refl _)
  have hlen : (es.set i (k, v)).length = es.length := by simp
  rw [hlen] at k1 k2
  refine ⟨.tuple #[ent.val, goInt i], { w with heap := w.heap.setIfInBounds (g.loc id) (.map (es'.modify i fun e => { e with key := k' }) es.length) }, ?_, ?_⟩
  ·have hkey : (((es'[i]?).map (·.key)).getD k') = k' := by rw [o1]; simpa using o2
   rw [A.here]
   simp only [Instr.mapEntry, Sem.run_bind, underlying, run_program, Result.andThen_ok, u1, run_getObjM A.heap, u2, u3, o4, Go.Instr.keyThatStays, hkey, o5, if_true, Sem.run_pure, run_setObjM _ A.heap, hbb]
  ·exact ⟨g, by simpa [goInt] using tup2 ((p4.evo (k2.mono (lim_le hR id))).mono (lim_le hR id)) (.int _ _), by simpa using k1, k2, by simp⟩
 ·rename_i id et es hat
  split at h
  case h_2 => cases h
  rename_i ei hei
  injection h with h; injection h with h1 h2; subst h1; subst h2
  obtain ⟨es', r', A, kc, ks⟩ := atMap_sound (P := P) hc hR hm hk hat
  obtain ⟨kt, u1, u2, u3⟩ := A.und
  have hr' : r' = none := by
   have := A.found
   cases r' with
   | none => rfl
   | some z => exact this.elim
  subst hr'
  have hte := hc.ty _ _ hei
  obtain ⟨z, z1, z2, _⟩ := hte.run_zero w
  have hz : ∀ (n : Nat), V g w n ei.zero z := fun n => absV_sound g w n z2
  have hlive := hR.live id _ A.obj
  obtain ⟨_, _, _, cur, q1, q2, q3⟩ := hlive
  rw [A.heap] at q1
  injection q1 with q1; injection q1 with q1
  subst q1
  obtain ⟨k1, k2⟩ := hR.putMap (es2 := es ++ [(k, ei.zero)]) (es2' := es'.push { key := k', val := z, born := es.length }) A.obj A.heap (by simp [A.size]) (fun j kv hj => by
    rcases Nat.lt_or_ge j es.length with hjl | hjl
    ·rw [List.getElem?_append_left hjl] at hj
     obtain ⟨e, p1, p2, p3, p4⟩ := q3 j kv hj
     exact ⟨e, by rw [Array.getElem?_push_lt (by rw [A.size]; exact hjl)]; rw [← p1]; exact (Array.getElem?_eq_getElem _).symm, p2, p3, p4⟩
    ·have hje : j = es.length := by
      have := (List.getElem?_eq_some_iff.1 hj).1
      simp at this; omega
     subst hje
     simp at hj; subst hj
     exact ⟨_, by have h := Array.getElem?_push_size (xs := es') (x := { key := k', val := z, born := es.length }); rw [A.size] at h; exact h, rfl, V.lim hR hk (fun _ => kc), hz _⟩) S.length (Nat.le_refl _)
  have hlen : (es ++ [(k, ei.zero)]).length = es.length + 1 := by simp
  rw [hlen] at k1 k2
  refine ⟨.tuple #[z, goInt es.length], { w with heap := w.heap.setIfInBounds (g.loc id) (.map (es'.push { key := k', val := z, born := es.length }) (es.length + 1)) }, ?_, ?_⟩
  ·rw [A.here]
   simp only [Instr.mapEntry, Sem.run_bind, underlying, run_program, Result.andThen_ok, u1, run_getObjM A.heap, u2, u3, z1, Sem.run_pure, run_setObjM _ A.heap]
  ·exact ⟨g, by simpa [goInt] using tup2 (absV_sound _ _ _ z2) (.int _ _), by simpa using k1, k2, by simp⟩
theorem findIdx_born {es' : Array MapEntry} {n : Nat} (hn : n < es'.size) (h : ∀ j, j < es'.size → ∃ e, es'[j]? = some e ∧ e.born = j) : es'.findIdx? (fun e => (e.born : Int) == (n : Int)) = some n := by
 rw [Array.findIdx?_eq_some_iff_getElem]
 refine ⟨hn, ?_, fun j hj => ?_⟩
 ·obtain ⟨e, h1, h2⟩ := h n hn
  rw [Array.getElem?_eq_getElem hn] at h1
  injection h1 with h1
  rw [h1, h2]; simp
 ·obtain ⟨e, h1, h2⟩ := h j (by omega)
  rw [Array.getElem?_eq_getElem (by omega)] at h1
  injection h1 with h1
  rw [h1, h2]
  simp; omega
theorem step_entryStore (hc : CtxTy P ctx) (hR : R S w g base bd) {base' : Nat} (hb : base = 0 ∨ base = base') {t : TypeId} {m st x : PV} {m' st' x' : Value} (hm : V g w S.length m m') (hst : V g w S.length st st') (hx : V g w S.length x x') {S' : List SObj} {e : Bool}
  (h : entryStorePV base' m st x S = some (S', e)) : ∃ w', (Instr.entryStore t m' st' x').run P w = .ok () w' ∧ Good base bd S g w (.tup []) S' e undef w' := by
 unfold entryStorePV at h
 split at h
 case h_2 => cases h
 rename_i id k n
 split at h
 case h_2 => cases h
 rename_i es hes
 split at h
 case isFalse => cases h
 rename_i hn
 cases hkv : es[n.toNat]? with
 | none => rw [hkv] at h; cases h
 | some kv =>
  rw [hkv] at h
  simp only [Option.map_some, Option.some.injEq, Prod.mk.injEq] at h
  obtain ⟨h1, h2⟩ := h
  subst h1
  obtain ⟨rfl, i1, i2⟩ := hm.inv_map
  rw [hst.inv_int]
  obtain ⟨l1, l2, l3, es', l4, l5, l6⟩ := hR.live id _ hes
  have hlt : n.toNat < es.length := (List.getElem?_eq_some_iff.1 hkv).1
  have hfi : es'.findIdx? (fun e => (e.born : Int) == n) = some n.toNat := by
   have := findIdx_born (es' := es') (n := n.toNat) (by omega) (fun j hj => by
    obtain ⟨e, q1, q2, _⟩ := l6 j es[j] (List.getElem?_eq_getElem (by omega))
    exact ⟨e, q1, q2⟩)
   rwa [Int.toNat_of_nonneg hn] at this
  have hrun : (Instr.entryStore t (.map (some (g.loc id))) (.int k n) x').run P w = .ok () { w with heap := w.heap.setIfInBounds (g.loc id) (.map (es'.modify n.toNat fun e => { e with val := x' }) es.length) } := by
   simp only [Instr.entryStore, Sem.run_bind, Sem.run_pure, run_getObjM l4, Result.andThen_ok, asInt, asIntOf, hfi, run_setObjM _ l4]
  refine ⟨_, hrun, ?_⟩
  have key : ∀ base'', R S w g base'' bd → V g w (lim base'' bd S.length id) x x' →
    R (S.set id (.map (es.set n.toNat (kv.1, x)))) { w with heap := w.heap.setIfInBounds (g.loc id) (.map (es'.modify n.toNat fun e => { e with val := x' }) es.length) } g base'' bd ∧
    Evo S.length g w g { w with heap := w.heap.setIfInBounds (g.loc id) (.map (es'.modify n.toNat fun e => { e with val := x' }) es.length) } := by
   intro base'' hR'' hV
   obtain ⟨_, _, _, cur, q1, q2, q3⟩ := hR''.live id _ hes
   rw [l4] at q1
   injection q1 with q1; injection q1 with q1
   subst q1
   have := hR''.putMap (es2 := es.set n.toNat (kv.1, x)) (es2' := es'.modify n.toNat fun e => { e with val := x' }) hes l4 (by simpa using l5) (fun j kv' hj => by
    by_cases hji : j = n.toNat
    ·subst hji
     rw [List.getElem?_set_self hlt] at hj
     injection hj with hj; subst hj
     obtain ⟨ent, p1, p2, p3, p4⟩ := q3 _ _ hkv
     exact ⟨{ ent with val := x' }, by simp [Array.getElem?_modify, p1], p2, p3, hV⟩
    ·rw [List.getElem?_set_ne (Ne.symm hji)] at hj
     obtain ⟨e, p1, p2, p3, p4⟩ := q3 j kv' hj
     exact ⟨e, by simp [Array.getElem?_modify, Ne.symm hji, p1], p2, p3, p4⟩) S.length (Nat.le_refl _)
   have hlen : (es.set n.toNat (kv.1, x)).length = es.length := by simp
   rwa [hlen] at this
  cases e with
  | true =>
   obtain ⟨k1, k2⟩ := key 0 (R.weaken hR) (by simpa [lim] using hx)
   exact ⟨g, .tup [] _ rfl (fun i c hi => by simp at hi), by simpa using k1, k2, by simp⟩
  | false =>
   obtain ⟨k1, k2⟩ := key base hR (V.lim hR hx (fun hlt' => by
    rcases hb with hb | hb
    ·omega
    ·subst hb
     simpa [hlt'] using h2))
   exact ⟨g, .tup [] _ rfl (fun i c hi => by simp at hi), by simpa using k1, k2, by simp⟩
theorem newIter (hR : R S w g base bd) {mp : Option Nat} {since : Nat} (hm : ∀ j, mp = some j → j < S.length ∧ g.obj j = true) :
  Good base bd S g w (.ptr S.length 0) (S ++ [.iter mp since []]) false (.pointer (some ⟨w.heap.size, 0, none⟩)) (w.alloc (.mapIter (mp.map g.loc) since #[] since)) := by
 have hpp := hR.hpp w.heap.size (Nat.le_refl _)
 have hgB := hR.hfix
 have evo : Evo S.length g w (g.new S.length w.heap.size 0 0 0 true) (w.alloc (.mapIter (mp.map g.loc) since #[] since)) := Evo.newBlock _ (Nat.le_refl _) hpp hgB
 refine ⟨g.new S.length w.heap.size 0 0 0 true, ?_, ?_, evo, by simp⟩
 ·have := V.ptr (g := g.new S.length w.heap.size 0 0 0 true) (w := w.alloc (.mapIter (mp.map g.loc) since #[] since)) (n := (S ++ [SObj.iter mp since []]).length) S.length 0 (by simp) (by simp [G.new])
  simpa [G.new] using this
 ·simp only [Bool.false_eq_true, if_false]
  refine hR.newBlock _ _ ⟨by simp [G.new], ?_, by simp [G.new], fun j hj => ?_, ?_⟩
  ·intro hk
   have hk' : g.fix w.heap.size := by simpa [G.new] using hk
   have := hR.hfix _ hk'
   omega
  ·obtain ⟨h1, h2⟩ := hm j hj
   refine ⟨by omega, ?_⟩
   simp only [G.new]; rw [if_neg (by omega)]; exact h2
  ·have h := alloc_new w (.mapIter (mp.map g.loc) since #[] since)
   have e : (g.new S.length w.heap.size 0 0 0 true).loc S.length = w.heap.size := by simp [G.new]
   have e2 : mp.map (g.new S.length w.heap.size 0 0 0 true).loc = mp.map g.loc := by
    cases mp with
    | none => rfl
    | some j =>
     have := (hm j rfl).1
     simp only [Option.map_some, G.new]; rw [if_neg (by omega)]
   rw [e, e2]; exact h
theorem step_range (hc : CtxTy P ctx) (hR : R S w g base bd) {t : TypeId} {m x : PV} {m' : Value} (hm : V g w S.length m m') {S' : List SObj}
  (h : rangePV ctx t m S = some (x, S')) : ∃ v w', (Instr.range t m').run P w = .ok v w' ∧ Good base bd S g w x S' false v w' := by
 unfold rangePV at h
 split at h
 case h_2 => cases h
 rename_i ti hti
 have ht := hc.ty _ _ hti
 split at h
 case h_3 => cases h
 ·rename_i kt et hund
  have hu : P.underlying t = some (.map kt et) := by rw [ht.und, hund]
  injection h with h; injection h with h1 h2; subst h1; subst h2
  refine ⟨_, w.alloc (.mapIter none 0 #[] 0), ?_, newIter hR (fun j hj => by cases hj)⟩
  rw [hm.inv_nilm]
  simp [Instr.range, underlying, hu, run_newObj]
 ·rename_i kt et id hund
  have hu : P.underlying t = some (.map kt et) := by rw [ht.und, hund]
  split at h
  case h_2 => cases h
  rename_i es hes
  injection h with h; injection h with h1 h2; subst h1; subst h2
  obtain ⟨rfl, i1, i2⟩ := hm.inv_map
  obtain ⟨l1, l2, l3, es', l4, l5, l6⟩ := hR.live id _ hes
  refine ⟨_, w.alloc (.mapIter (some (g.loc id)) es.length #[] es.length), ?_, newIter (mp := some id) hR (fun j hj => by injection hj with hj; subst hj; exact ⟨i1, i2⟩)⟩
  simp [Instr.range, underlying, hu, run_newObj, run_getObjM l4]
theorem step_next (hR : R S w g base bd) {it x : PV} {it' : Value} {ty : TypeId} (hm : V g w S.length it it') {S' : List SObj}
  (h : nextPV it S = some (x, S')) : ∃ v w', (Instr.next it' false ty).run P w = .ok v w' ∧ Good base bd S g w x S' false v w' := by
 have over : Good base bd S g w (.tup [.bool false]) S false (.tuple #[.bool false]) w := Good.same hR (.tup _ _ rfl (fun i c hi => by
  rcases i with _ | i
  ·simp at hi; subst hi; exact .bool _
  ·simp at hi))
 unfold nextPV at h
 split at h
 case h_2 => cases h
 rename_i i
 obtain ⟨rfl, i1, i2⟩ := hm.inv_ptr
 split at h
 case h_3 => cases h
 ·rename_i si se hs
  injection h with h; injection h with h1 h2; subst h1; subst h2
  obtain ⟨l1, l2, l3, l4, l6⟩ := hR.live i _ hs
  have hg : (getObj (g.loc i)).run P w = .ok (.mapIter none si se.toArray si) w := by simp [getObj, Sem.run, l6]
  exact ⟨_, w, by simp [Instr.next, hg], over⟩
 ·rename_i id si se hs
  obtain ⟨l1, l2, l3, l4, l6⟩ := hR.live i _ hs
  have hg : (getObj (g.loc i)).run P w = .ok (.mapIter (some (g.loc id)) si se.toArray si) w := by simp [getObj, Sem.run, l6]
  split at h
  case h_3 => cases h
  ·rename_i hes
   injection h with h; injection h with h1 h2; subst h1; subst h2
   obtain ⟨m1, m2, m3, es', m4, m5, m6⟩ := hR.live id _ hes
   obtain rfl : es' = #[] := by simpa using m5
   exact ⟨_, w, by simp [Instr.next, hg, run_getObjM m4, run_choose, Question.forced], over⟩
  ·rename_i kv hes
   obtain ⟨m1, m2, m3, es', m4, m5, m6⟩ := hR.live id _ hes
   obtain ⟨ent, p1, p2, p3, p4⟩ := m6 0 kv rfl
   obtain rfl : es' = #[ent] := by
    apply Array.ext (by simpa using m5)
    intro j hj1 hj2
    have hj : j = 0 := by simp at hj2; exact hj2
    subst hj
    rw [Array.getElem?_eq_getElem hj1] at p1
    injection p1
   split at h
   case isFalse => cases h
   rename_i hsi
   subst hsi
   split at h
   case h_3 => cases h
   case h_2 =>
    injection h with h; injection h with h1 h2; subst h1; subst h2
    refine ⟨_, w, ?_, over⟩
    simp [Instr.next, hg, run_getObjM m4, run_choose, Question.forced, p2]
   case h_1 =>
    injection h with h; injection h with h1 h2; subst h1; subst h2
    have hfl : (#[ent].filter fun e => !(#[] : Array Nat).contains e.born) = #[ent] := by simp
    have hfo : (#[ent].filter fun e => decide (e.born < 1)) = #[ent] := by simp [p2]
    have hfn : (#[ent].filter fun e => decide (e.born ≥ 1)) = #[] := by simp [p2]
    have hso : (setObj (g.loc i) (.mapIter (some (g.loc id)) 1 #[0] 1)).run P w = .ok () { w with heap := w.heap.setIfInBounds (g.loc i) (.mapIter (some (g.loc id)) 1 #[0] 1) } := by simp [setObj, Sem.run, l6]
    have hlt : g.loc i < w.heap.size := (Array.getElem?_eq_some_iff.1 l6).1
    obtain ⟨k1, k2⟩ := hR.touch (w' := { w with heap := w.heap.setIfInBounds (g.loc i) (.mapIter (some (g.loc id)) 1 #[0] 1) }) (o' := .iter (some id) 1 [0]) hs (by simp) l1 l2 l3
     (fun k hk hne => by simp [Array.getElem?_setIfInBounds, Ne.symm hne]) (by simp) rfl rfl rfl
     (fun evo => ⟨l1, l2, l3, l4, by simp [Array.getElem?_setIfInBounds, hlt]⟩) S.length (Nat.le_refl _)
    refine ⟨.tuple #[.bool true, ent.key, ent.val], { w with heap := w.heap.setIfInBounds (g.loc i) (.mapIter (some (g.loc id)) 1 #[0] 1) }, ?_, ?_⟩
    ·simp only [Instr.next, Sem.run_bind, hg, Result.andThen_ok, run_getObjM m4, Bool.false_eq_true, if_false, hfl, hfo, hfn]
     simp [run_choose, Question.forced, p2, hso]
    ·refine ⟨g, ?_, by simpa using k1, k2, by simp⟩
     have hle := lim_le hR id
     have q3 := (p3.mono hle).evo k2
     have q4 := (p4.mono hle).evo k2
     refine .tup _ _ rfl (fun j c hj => ?_)
     rw [List.length_set]
     rcases j with _ | _ | _ | j
     ·simp at hj; subst hj; exact .bool _
     ·simp at hj; subst hj; exact q3
     ·simp at hj; subst hj; exact q4
     ·simp at hj
theorem step_nextM (hR : R S w g base bd) {i id since : Nat} {seen : List Nat} {es : List (PV × PV)} {ty : TypeId} (hs : S[i]? = some (.iter (some id) since seen)) (hes : S[id]? = some (.map es)) (hlen : since = es.length) :
  ((∀ j, j < since → j ∈ seen) ∧ (Instr.next (.pointer (some ⟨g.loc i, 0, none⟩)) false ty).run P w = .ok (.tuple #[.bool false]) w) ∨
  ∃ j kv v w', j < since ∧ j ∉ seen ∧ es[j]? = some kv ∧ (Instr.next (.pointer (some ⟨g.loc i, 0, none⟩)) false ty).run P w = .ok v w' ∧ Good base bd S g w (.tup [.bool true, kv.1, kv.2]) (S.set i (.iter (some id) since (seen ++ [j]))) false v w' := by
 obtain ⟨l1, l2, l3, l4, l6⟩ := hR.live i _ hs
 obtain ⟨m1, m2, m3, es', m4, m5, m6⟩ := hR.live id _ hes
 subst hlen
 have at' : ∀ (j : Nat) (hj : j < es.length), ∃ e, es'[j]? = some e ∧ e.born = j ∧ V g w (lim base bd S.length id) es[j].1 e.key ∧ V g w (lim base bd S.length id) es[j].2 e.val := fun j hj => m6 j es[j] (List.getElem?_eq_getElem hj)
 have mem : ∀ e ∈ es'.toList, ∃ j, ∃ hj : j < es.length, es'[j]? = some e ∧ e.born = j := by
  intro e he
  obtain ⟨j, hj, rfl⟩ := List.mem_iff_getElem.1 he
  have hj' : j < es.length := by simp at hj; omega
  obtain ⟨e', q1, q2, _⟩ := at' j hj'
  refine ⟨j, hj', by simp, ?_⟩
  have : es'[j]? = some es'.toList[j] := by simp
  rw [q1] at this; injection this with this; rw [← this]; exact q2
 have hold : ∀ x ∈ es'.toList, x.born < es.length := fun x hx => by obtain ⟨j, hj, _, h⟩ := mem x hx; omega
 rcases run_next_at (P := P) w ty (g.loc i) (g.loc id) es.length es.length seen.toArray es' es.length l6 m4 hold (Nat.le_refl _) with ⟨h0, hrun⟩ | ⟨e, he, w1, hw1, hrun⟩
 ·refine .inl ⟨fun j hj => ?_, hrun⟩
  obtain ⟨e, q1, q2, _⟩ := at' j hj
  apply Classical.byContradiction
  intro hn
  have : e ∈ leftOf es' seen.toArray := by
   unfold leftOf
   rw [Array.mem_filter]
   exact ⟨Array.mem_of_getElem? q1, by simp [q2, hn]⟩
  have h0' : leftOf es' seen.toArray = #[] := Array.eq_empty_of_size_eq_zero h0
  rw [h0'] at this
  simp at this
 ·have he' : e ∈ es'.toList ∧ e.born ∉ seen := by
   unfold leftOf at he
   simpa using he
  obtain ⟨j, hj, q1, q2⟩ := mem e he'.1
  obtain ⟨e2, p1, p2, p3, p4⟩ := at' j hj
  rw [q1] at p1; injection p1 with p1; subst p1
  have hns : j ∉ seen := by rw [← q2]; exact he'.2
  have hh : w1.heap = w.heap ∧ w1.os = w.os ∧ w1.tape = w.tape ∧ w1.output = w.output := by
   rcases hw1 with rfl | rfl
   ·exact ⟨rfl, rfl, rfl, rfl⟩
   ·exact ⟨rfl, rfl, rfl, rfl⟩
  have hlt : g.loc i < w.heap.size := (Array.getElem?_eq_some_iff.1 l6).1
  obtain ⟨k1, k2⟩ := hR.touch (w' := ChangeMaps.setBlock w1 (g.loc i) (.mapIter (some (g.loc id)) es.length (seen.toArray.push e.born) es.length)) (o' := .iter (some id) es.length (seen ++ [j])) hs (by simp) l1 l2 l3
   (fun k hk hne => by simp [ChangeMaps.setBlock, hh.1, Array.getElem?_setIfInBounds, Ne.symm hne]) (by simp [ChangeMaps.setBlock, hh.1]) hh.2.1 hh.2.2.1 hh.2.2.2
   (fun evo => ⟨l1, l2, l3, l4, by simp [ChangeMaps.setBlock, hh.1, Array.getElem?_setIfInBounds, hlt, q2]⟩) S.length (Nat.le_refl _)
  refine .inr ⟨j, es[j], _, _, hj, hns, List.getElem?_eq_getElem hj, hrun, g, ?_, by simpa using k1, k2, by simp⟩
  have hle := lim_le hR id
  have q3 := (p3.mono hle).evo k2
  have q4 := (p4.mono hle).evo k2
  refine .tup _ _ rfl (fun j c hj => ?_)
  rw [List.length_set]
  rcases j with _ | _ | _ | j
  ·simp at hj; subst hj; exact .bool _
  ·simp at hj; subst hj; exact q3
  ·simp at hj; subst hj; exact q4
  ·simp at hj
theorem step_entry (hR : R S w g base bd) {it x : PV} {it' : Value} (hm : V g w S.length it it') (h : entryPV it S = some x) : ∃ v, (Instr.entry it').run P w = .ok v w ∧ V g w S.length x v := by
 unfold entryPV at h
 split at h
 case h_2 => cases h
 rename_i i
 obtain ⟨rfl, i1, i2⟩ := hm.inv_ptr
 split at h
 case h_2 => cases h
 rename_i id si se hs
 obtain ⟨l1, l2, l3, l4, l6⟩ := hR.live i _ hs
 split at h
 case h_2 => cases h
 rename_i es q hes hq
 split at h
 case isFalse => cases h
 rename_i hc
 cases hkv : es[q]? with
 | none => rw [hkv] at h; cases h
 | some kv =>
  rw [hkv] at h
  simp only [Option.map_some, Option.some.injEq] at h
  subst h
  obtain ⟨m1, m2, m3, es', m4, m5, m6⟩ := hR.live id _ hes
  obtain ⟨ent, p1, p2, p3, p4⟩ := m6 q kv hkv
  have hg : (getObj (g.loc i)).run P w = .ok (.mapIter (some (g.loc id)) si se.toArray si) w := by simp [getObj, Sem.run, l6]
  have hf : es'.find? (fun e => e.born == q) = some ent := by
   have hlt : q < es'.size := (Array.getElem?_eq_some_iff.1 p1).1
   rw [Array.find?_eq_some_iff_getElem]
   refine ⟨by simp [p2], q, hlt, ?_, fun j hj => ?_⟩
   ·rw [Array.getElem?_eq_getElem hlt] at p1
    exact Option.some.inj p1
   ·have hj' : j < es.length := by omega
    obtain ⟨e, e1, e2, _⟩ := m6 j es[j] (List.getElem?_eq_getElem hj')
    rw [Array.getElem?_eq_getElem (by omega)] at e1
    have e1 := Option.some.inj e1
    rw [e1]; simp [e2]; omega
  have hle := lim_le hR id
  have hb : se.toArray.back? = some q := by rw [List.back?_toArray]; exact hq
  refine ⟨.tuple #[ent.key, ent.val], ?_, tup2 (p3.mono hle) (p4.mono hle)⟩
  simp [Instr.entry, hg, run_getObjM m4, hc, hf, hb]
theorem R.shrink (h : R S w g base bd) {id l : Nat} {xs : List PV} {sz : Nat} (hs : S[id]? = some (.row xs sz false)) : R (S.set id (.row (xs.take l) sz false)) w g base bd := by
 refine ⟨by simpa using h.hbase, h.hbd, h.hfix, h.hpp, ?_, ?_⟩
 ·intro k q hk
  rw [List.length_set]
  by_cases hki : k = id
  ·subst hki
   rw [List.getElem?_set_self (R.lt h hs)] at hk
   injection hk with hk; subst hk
   obtain ⟨l1, l2, l3, cur, t, fr, l4, l5, l6, l7, l8, l9, l10⟩ := h.live k _ hs
   have sub : ∀ (i : Nat) (x : PV), (xs.take l)[i]? = some x → xs[i]? = some x := fun i x hi => by
    rw [List.getElem?_take] at hi
    split at hi
    ·exact hi
    ·cases hi
   refine ⟨l1, l2, by simpa using l3, cur, t, fr, l4, ?_, l6, l7, l8, fun i x hi => l9 i x (sub i x hi), fun i x j c hi hj => l10 i x j c (sub i x hi) hj⟩
   rw [List.length_take]; omega
  ·rw [List.getElem?_set_ne (Ne.symm hki)] at hk
   exact h.live k q hk
 ·intro i k q p hi hk hq hp hloc
  have aux : ∀ (m : Nat) (q : SObj), (S.set id (.row (xs.take l) sz false))[m]? = some q → q ≠ .dead → ∃ q', S[m]? = some q' ∧ q' ≠ .dead := by
   intro m q hm hq
   by_cases hmi : m = id
   ·subst hmi; exact ⟨_, hs, by simp⟩
   ·rw [List.getElem?_set_ne (Ne.symm hmi)] at hm; exact ⟨q, hm, hq⟩
  obtain ⟨o1, h1, h2⟩ := aux i q hi hq
  obtain ⟨p', h3, h4⟩ := aux k p hk hp
  exact h.inj i k o1 p' h1 h3 h2 h4 hloc
theorem truncS_len (s : PV) (S : List SObj) : (truncS s S).length = S.length := by
 unfold truncS
 split
 ·split
  ·split
   ·simp
   ·rfl
  ·rfl
 ·rfl
theorem truncS_sound (h : R S w g base bd) (s : PV) : R (truncS s S) w g base bd := by
 unfold truncS
 split
 ·split
  ·rename_i hs
   split
   ·exact h.shrink hs
   ·exact h
  ·exact h
 ·exact h
theorem Good.trunc {s x : PV} {S' : List SObj} {e : Bool} {v : Value} {w' : World} (h : Good base bd (truncS s S) g w x S' e v w') : Good base bd S g w x S' e v w' := by
 obtain ⟨g', h1, h2, h3, h4⟩ := h
 rw [truncS_len] at h3 h4
 exact ⟨g', h1, h2, h3, h4⟩
theorem getD_zeroCells {z : Array Value} {n i j : Nat} (hi : i < n) (hj : j < z.size) : (Builtin.zeroCells z n)[i * z.size + j]? = some (z.getD j undef) := by
 unfold Builtin.zeroCells
 have hlt : i * z.size + j < n * z.size := by
  have : (i + 1) * z.size ≤ n * z.size := Nat.mul_le_mul_right _ hi
  rw [Nat.add_mul] at this; omega
 have hm : (i * z.size + j) % z.size = j := by
  rw [Nat.mul_comm, Nat.mul_add_mod]
  exact Nat.mod_eq_of_lt hj
 rw [Array.getElem?_map, Array.getElem?_range]
 simp [hlt, hm, Array.getD_eq_getD_getElem?, hj]
theorem step_clear (hc : CtxTy P ctx) (hR : R S w g base bd) {ts : Array TypeId} {ty t : TypeId} {x : PV} {args : Array Value} {x' : Value} {S' : List SObj} (ht0 : ts[0]? = some t) (h0 : args[0]? = some x')
  (hx : V g w S.length x x') (h : clearPV ctx t x S = some S') : ∃ v w', (Builtin.clear_ ts ty args).run P w = .ok v w' ∧ Good base bd S g w (.tup []) S' false v w' := by
 have unit : V g w S.length (.tup []) (.tuple #[]) := .tup [] _ rfl (fun i c hi => by simp at hi)
 unfold clearPV at h
 split at h
 case h_2 => cases h
 rename_i ti hti
 split at h
 case h_2 => cases h
 rename_i e hund
 split at h
 case h_2 => cases h
 rename_i ei hei
 have ht := hc.ty _ _ hti
 have hte := hc.ty _ _ hei
 obtain ⟨z, z1, z2, z3⟩ := hte.run_zero w
 have key : ∀ (id i len cap : Nat), x' = .slice (some ⟨g.loc id, i * ei.size, none⟩) len cap → clearPV.row S ei id i len = some S' →
   ∃ v w', (Builtin.clear_ ts ty args).run P w = .ok v w' ∧ Good base bd S g w (.tup []) S' false v w' := by
  intro id i len cap hx' hrow
  unfold clearPV.row at hrow
  split at hrow
  case h_2 => cases hrow
  rename_i xs sz hs
  split at hrow
  case isFalse => cases hrow
  rename_i hcond
  obtain ⟨c1, c2, rfl, c4, c5⟩ := hcond
  injection hrow with hrow; subst hrow
  have hz := absV_sound g w S.length z2
  obtain ⟨y1, y2, y3⟩ := hz.storable c5
  obtain ⟨l1, l2, l3, cur, t', fr, l4, l5, l6, l7, l8, l9, l10⟩ := hR.live id _ hs
  have hzs : z.cells.size = ei.size := by rw [z3, c4]
  have hvl : (Builtin.zeroCells z.cells len).toList.length = len * ei.size := by simp [Builtin.zeroCells, hzs]
  have hfit : i * ei.size + len * ei.size ≤ cur.size := by
   rw [l6, ← Nat.add_mul]
   exact Nat.mul_le_mul_right _ (by omega)
  have hone : ∀ v ∈ (Builtin.zeroCells z.cells len).toList, v.oneCell' = true := fun v hv => zeros_one y3 (by simpa using hv)
  have hrun : (Builtin.clear_ ts ty args).run P w = .ok (.tuple #[]) (w.setCells (g.loc id) (i * ei.size) (Builtin.zeroCells z.cells len).toList) := by
   have hst := run_storeCells_cells (P := P) (g.loc id) (i * ei.size) (Builtin.zeroCells z.cells len).toList 0 w (fun j hj => by
     have : i * ei.size + 0 + j < cur.size := by omega
     simp [World.cell?, l4]; omega) (fun j hj => by
     have : i * ei.size + 0 + j < cur.size := by omega
     have := l8 _ this
     simp only [World.frozen?, l4]
     simpa using this) hone
   obtain ⟨len', rfl⟩ : ∃ q, len = q + 1 := ⟨len - 1, by omega⟩
   simp only [Builtin.clear_, ht0, h0, hx', Sem.run_bind, ht.run_und, hund, Result.andThen_ok, z1, storeCells, hst, Sem.run_pure]
   simp only [Nat.add_zero]
  refine ⟨_, _, hrun, ?_⟩
  obtain ⟨cur', s1, s2, s3, s4, s5, s6, s7, s8, s9⟩ := setCells_block (g.loc id) t' fr (Builtin.zeroCells z.cells len).toList (i * ei.size) w cur l4 (by omega)
  obtain ⟨k1, k2⟩ := hR.write (off := i * ei.size) (vs := (Builtin.zeroCells z.cells len).toList) (o' := .row (xs.take i ++ List.replicate len ei.zero ++ xs.drop (i + len)) ei.size false) hs (by simp) l4 l2 (by simpa using l3) (by omega) (fun evo => by
   have hget : ∀ (k : Nat) (y : PV), (xs.take i ++ List.replicate len ei.zero ++ xs.drop (i + len))[k]? = some y → ((k < i ∨ i + len ≤ k) ∧ xs[k]? = some y) ∨ (i ≤ k ∧ k < i + len ∧ y = ei.zero) := by
    intro k y hk
    have hti : (xs.take i).length = i := by simp; omega
    rcases Nat.lt_or_ge k i with h1 | h1
    ·rw [List.append_assoc, List.getElem?_append_left (by omega), List.getElem?_take, if_pos h1] at hk
     exact .inl ⟨.inl h1, hk⟩
    ·rcases Nat.lt_or_ge k (i + len) with h2 | h2
     ·rw [List.append_assoc, List.getElem?_append_right (by omega), List.getElem?_append_left (by simp; omega), List.getElem?_replicate] at hk
      split at hk
      ·injection hk with hk; exact .inr ⟨h1, h2, hk.symm⟩
      ·cases hk
     ·rw [List.getElem?_append_right (by simp; omega), List.getElem?_drop] at hk
      simp only [List.length_append, hti, List.length_replicate] at hk
      rw [show i + len + (k - (i + len)) = k by omega] at hk
      exact .inl ⟨.inr h2, hk⟩
   have hlive := hR.live id _ hs
   obtain ⟨_, _, _, cur0, _, _, q4, _, _, _, _, q9, q10⟩ := hlive
   rw [l4] at q4
   injection q4 with q4; injection q4 with q4
   subst q4
   refine ⟨l1, l2, by simpa using l3, cur', t', fr, s1, ?_, by rw [s2]; exact l6, fun v hv => ?_, fun q hq => l8 q (by omega), fun k y hk => ?_, fun k y q c hk hq => ?_⟩
   ·have : (xs.take i ++ List.replicate len ei.zero ++ xs.drop (i + len)).length = xs.length := by simp; omega
    rw [this]; exact l5
   ·obtain ⟨q, hq, rfl⟩ := Array.mem_iff_getElem.1 hv
    by_cases hin : i * ei.size ≤ q ∧ q < i * ei.size + (Builtin.zeroCells z.cells len).toList.length
    ·have := s4 (q - i * ei.size) ((Builtin.zeroCells z.cells len).toList[q - i * ei.size]'(by omega)) (List.getElem?_eq_getElem (by omega))
     rw [show i * ei.size + (q - i * ei.size) = q by omega, Array.getElem?_eq_getElem hq] at this
     injection this with this
     rw [this]
     exact hone _ (List.getElem_mem _)
    ·have := s3 q (by omega)
     rw [Array.getElem?_eq_getElem hq, Array.getElem?_eq_getElem (show q < cur.size by omega)] at this
     injection this with this
     rw [this]
     exact l7 _ (Array.getElem_mem _)
   ·rcases hget k y hk with ⟨_, h⟩ | ⟨_, _, rfl⟩
    ·exact l9 k y h
    ·exact c4
   ·rw [Array.getD_eq_getD_getElem?]
    rcases hget k y hk with ⟨ho, h⟩ | ⟨h1, h2, rfl⟩
    ·have hq' : q < ei.size := by rw [← l9 k y h]; exact (List.getElem?_eq_some_iff.1 hq).1
     have hout : k * ei.size + q < i * ei.size ∨ i * ei.size + (Builtin.zeroCells z.cells len).toList.length ≤ k * ei.size + q := by
      rw [hvl]
      rcases ho with ho | ho
      ·have : (k + 1) * ei.size ≤ i * ei.size := Nat.mul_le_mul_right _ ho
       rw [Nat.add_mul] at this; omega
      ·have : (i + len) * ei.size ≤ k * ei.size := Nat.mul_le_mul_right _ ho
       rw [Nat.add_mul] at this; omega
     rw [s3 _ hout, ← Array.getD_eq_getD_getElem?]
     exact (q10 k y q c h hq).evo evo
    ·have hq' : q < z.cells.size := by rw [z3]; exact (List.getElem?_eq_some_iff.1 hq).1
     have hzc := getD_zeroCells (z := z.cells) (n := len) (i := k - i) (j := q) (by omega) hq'
     rw [hzs] at hzc
     have := s4 ((k - i) * ei.size + q) (z.cells.getD q undef) (by simpa using hzc)
     have e1 : i * ei.size + ((k - i) * ei.size + q) = k * ei.size + q := by
      rw [← Nat.add_assoc, ← Nat.add_mul]; congr 2; omega
     rw [e1] at this
     rw [this]
     have hzz := absV_sound g (w.setCells (g.loc id) (i * ei.size) (Builtin.zeroCells z.cells len).toList) (lim base bd S.length id) z2
     exact (hzz.storable c5).2.1 q c hq) S.length
  exact ⟨g, .tup [] _ rfl (fun i c hi => by simp at hi), by simpa using k1, k2, by simp⟩
 split at h
 ·injection h with h; subst h
  rw [hx.inv_nils] at h0
  exact ⟨.tuple #[], w, by simp [Builtin.clear_, ht0, h0, ht.run_und, hund], Good.same hR unit⟩
 ·injection h with h; subst h
  obtain ⟨a, rfl⟩ := hx.inv_emp
  exact ⟨.tuple #[], w, by simp [Builtin.clear_, ht0, h0, ht.run_und, hund], Good.same hR unit⟩
 ·rename_i id len
  obtain ⟨rfl, _⟩ := hx.inv_rsl
  exact key id 0 len _ (by rw [Nat.zero_mul]) h
 ·rename_i id off len
  split at h
  case isFalse => cases h
  rename_i hcond
  obtain ⟨cap, rfl, _⟩ := hx.inv_hsl
  refine key id (off / ei.size) len cap ?_ h
  have : off / ei.size * ei.size = off := by
   have := Nat.div_add_mod off ei.size
   rw [hcond.2, Nat.mul_comm] at this; omega
  rw [this]
 ·cases h
end
end Go.Pam
namespace Go.Pam
open Go.RowKit
structure FnOk (P : Program) (f : FuncId) (pf : PFn) : Prop where
 ok : ∃ fn c m, P.funcs[f]? = some fn ∧ fn.body = some c ∧ compile m c = some pf.body ∧ fn.ntmps = pf.ntmps ∧ fn.results.toList = pf.results ∧ fn.name ≠ "runtime.NumGoroutine"
def blk? (w : World) (b : Nat) : Option (Array Value) := match w.heap[b]? with
 | some (.cells cs _ _) => some cs
 | _ => none
theorem blk_heap {w w' : World} {b : Nat} (h : w'.heap[b]? = w.heap[b]?) : blk? w' b = blk? w b := by unfold blk?; rw [h]
theorem blk_lt {w : World} {b : Nat} {cs : Array Value} (h : blk? w b = some cs) : b < w.heap.size := by
 rcases Nat.lt_or_ge b w.heap.size with h' | h'
 ·exact h'
 ·simp [blk?, Array.getElem?_eq_none h'] at h
theorem blk_cell {w : World} {b : Nat} {cs : Array Value} (h : blk? w b = some cs) (i : Nat) : w.cell? ⟨b, i, none⟩ = cs[i]? := by
 unfold blk? at h
 split at h
 ·rename_i h'
  injection h with h
  subst h
  simp [World.cell?, h']
 ·cases h
theorem blk_var {P : Program} {w : World} {n : String} {b : Nat} {cs : Array Value} (hg : P.globalNamed n = some b) : w.var? P n = some cs ↔ blk? w b = some cs := by
 unfold World.var? blk?
 rw [hg]; rfl
def Gl (ctx : Ctx) (w : World) (g : G) : Prop := ∀ p ∈ ctx.gls, g.fix p.1 ∧ blk? w p.1 = some p.2.toArray
theorem Gl.evo {ctx : Ctx} {n : Nat} {g g' : G} {w w' : World} (h : Gl ctx w g) (e : Evo n g w g' w') : Gl ctx w' g' := fun p hp => ⟨by rw [e.fix]; exact (h p hp).1, (blk_heap (e.low _ (h p hp).1)).trans (h p hp).2⟩
theorem Gl.all {ctx : Ctx} {g : G} {w : World} (h : Gl ctx w g) : Gl ctx w { g with fix := fun k => k < w.heap.size } := fun p hp => ⟨blk_lt (h p hp).2, (h p hp).2⟩
def CallOk (P : Program) (ctx : Ctx) (call : Call') : Prop :=
 ∀ (f : FuncId) (args : List PV) (S : List SObj) (v : PV) (S' : List SObj) (e : Bool), call f args S = some (v, S', e) →
  ∀ (w : World) (g : G) (base : Nat) (bd : Nat → Nat) (cargs : Array Value), R S w g base bd → Gl ctx w g → args.length = cargs.size → (∀ (i : Nat) (c : PV), args[i]? = some c → V g w S.length c (cargs.getD i undef)) →
   (∃ fn, P.funcs[f]? = some fn ∧ fn.body.isNone = false ∧ fn.name ≠ "runtime.NumGoroutine") ∧
   Calls P f cargs w (fun en w' => ∃ rv, en = .returned rv ∧ Good base bd S g w v S' e rv w')
theorem CallOk.run {P : Program} {f : FuncId} {cargs : Array Value} {w : World} (h : ∃ fn, P.funcs[f]? = some fn ∧ fn.body.isNone = false ∧ fn.name ≠ "runtime.NumGoroutine") :
  (callFunc f cargs).run P w = .ok (.enter f cargs) w := by
 obtain ⟨fn, h1, h2, h3⟩ := h
 simp only [callFunc, Sem.run_bind, run_program, Result.andThen_ok, h1]
 rw [if_neg (by simpa using h3), if_neg (by simp only [h2]; simp)]
 rfl
section
variable {P : Program} {ctx : Ctx} {call : Call'} {S : List SObj} {g : G} {w : World} {base base' : Nat} {bd : Nat → Nat} {σ : Nat → PV} {a : Act}
theorem opds {g : G} {w : World} {n : Nat} (hs : Slots g w n σ a.tmps) (xs : Array Operand) : (xs.toList.map (opd σ)).length = (xs.map a.eval).size ∧
  ∀ (i : Nat) (c : PV), (xs.toList.map (opd σ))[i]? = some c → V g w n c ((xs.map a.eval).getD i undef) := by
 refine ⟨by simp, fun i c hi => ?_⟩
 rw [List.getElem?_map] at hi
 rw [Array.getD_eq_getD_getElem?, Array.getElem?_map]
 rw [Array.getElem?_toList] at hi
 cases hx : xs[i]? with
 | none => simp [hx] at hi
 | some x =>
  simp [hx] at hi; subst hi
  exact opd_sound hs x
theorem parts_sound {g : G} {w : World} {n : Nat} (hs : Slots g w n σ a.tmps) : ∀ (ps : List (Nat × Operand)), Parts g w n (ps.map fun p => (p.1, opd σ p.2)) (ps.map fun p => (p.1, a.eval p.2))
 | [] => trivial
 | p :: ps => ⟨rfl, opd_sound hs p.2, parts_sound hs ps⟩
def OpOk (P : Program) (o : Oper) (a : Act) (w : World) (Post : Value → World → Prop) : Prop :=
 ∀ (next : Act → World → Prop) (Q : Exit → Act → World → Prop), (∀ v w', Post v w' → next (a.put o.dst v) w') → o.wp P a w next Q
theorem OpOk.value {o : Oper} {v : Value} {w' : World} {Post : Value → World → Prop} (h : (execOp a.eval o).run P w = .ok (.value v) w') (hp : Post v w') : OpOk P o a w Post := by
 intro next Q hn
 unfold Oper.wp
 rw [h]
 exact hn v w' hp
theorem OpOk.skip {o : Oper} {w' : World} {Post : Value → World → Prop} (h : (execOp a.eval o).run P w = .ok .skip w') (hp : Post undef w') : OpOk P o a w Post := by
 intro next Q hn
 unfold Oper.wp
 rw [h]
 exact hn undef w' hp
theorem OpOk.enter {o : Oper} {f : FuncId} {args : Array Value} {w' : World} {Post : Value → World → Prop} (h : (execOp a.eval o).run P w = .ok (.enter f args) w')
  (hp : Calls P f args w' (fun en w'' => ∃ rv, en = .returned rv ∧ Post rv w'')) : OpOk P o a w Post := by
 intro next Q hn
 unfold Oper.wp
 rw [h]
 refine hp.mono ?_
 rintro e w'' ⟨rv, rfl, hpost⟩
 exact hn rv w'' hpost
theorem callPV_sound (hc : CtxTy P ctx) (hcall : CallOk P ctx call) (hR : R S w g base bd) (hgl : Gl ctx w g) (hs : Slots g w S.length σ a.tmps) {o : Oper} {c : Go.Call} (hop : o.op = .call c) {x : PV} {S' : List SObj} {e : Bool}
  (h : callPV ctx call σ S c = some (x, S', e)) : OpOk P o a w (fun v w' => Good base bd S g w x S' e v w') := by
 obtain ⟨o1, o2⟩ := opds hs c.args
 have arg0 : ∀ (k : Nat) (y : PV), (c.args.toList.map (opd σ))[k]? = some y → ∃ y', (c.args.map a.eval)[k]? = some y' ∧ V g w S.length y y' := by
  intro k y hk
  have hl : k < (c.args.map a.eval).size := by have := (List.getElem?_eq_some_iff.1 hk).1; omega
  have := o2 k y hk
  rw [Array.getD_eq_getD_getElem?, Array.getElem?_eq_getElem hl] at this
  exact ⟨_, Array.getElem?_eq_getElem hl, this⟩
 unfold callPV at h
 split at h
 ·-- len
  rename_i hcal
  split at h
  case h_2 => cases h
  rename_i t y ys ht hy
  cases hl : lenPV ctx t y S with
  | none => simp [hl] at h
  | some i =>
   simp [hl] at h; obtain ⟨rfl, rfl, rfl⟩ := h
   obtain ⟨y', h1, h2⟩ := arg0 0 y (by rw [hy]; rfl)
   have := step_len (P := P) (ty := o.type) hc hR ht h1 h2 hl
   exact OpOk.value (v := .int .i64 i) (w' := w) (by simp [execOp, hop, resolve, hcal, invoke, builtin, this]) (Good.same hR (.int _ _))
 ·-- append
  rename_i hcal
  split at h
  case h_2 => cases h
  rename_i s y ys hy
  cases hl : appendPV ctx c.argTypes s y S with
  | none => simp [hl] at h
  | some z =>
   simp [hl] at h; obtain ⟨rfl, rfl, rfl⟩ := h
   obtain ⟨s', h1, h2⟩ := arg0 0 s (by rw [hy]; rfl)
   obtain ⟨y', h3, h4⟩ := arg0 1 y (by rw [hy]; rfl)
   obtain ⟨v, w', h5, h6⟩ := step_append (P := P) (ty := o.type) hc hR h1 h3 h2 h4 (show appendPV ctx c.argTypes s y S = some (z.1, z.2) from hl)
   exact OpOk.value (v := v) (w' := w') (by simp [execOp, hop, resolve, hcal, invoke, builtin, h5]) h6
 ·-- min
  rename_i hcal
  cases hl : minmax false (c.args.toList.map (opd σ)) with
  | none => simp [hl] at h
  | some y =>
   simp [hl] at h; obtain ⟨rfl, rfl, rfl⟩ := h
   obtain ⟨v, h1, h2⟩ := step_minmax (P := P) (w := w) false (ts := c.argTypes) (ty := o.type) o1 o2 hl
   simp only [Bool.false_eq_true, if_false] at h1
   exact OpOk.value (v := v) (w' := w) (by simp [execOp, hop, resolve, hcal, invoke, builtin, h1]) (Good.same hR h2)
 ·-- max
  rename_i hcal
  cases hl : minmax true (c.args.toList.map (opd σ)) with
  | none => simp [hl] at h
  | some y =>
   simp [hl] at h; obtain ⟨rfl, rfl, rfl⟩ := h
   obtain ⟨v, h1, h2⟩ := step_minmax (P := P) (w := w) true (ts := c.argTypes) (ty := o.type) o1 o2 hl
   simp only [if_true] at h1
   exact OpOk.value (v := v) (w' := w) (by simp [execOp, hop, resolve, hcal, invoke, builtin, h1]) (Good.same hR h2)
 ·-- clear
  rename_i hcal
  split at h
  case h_2 => cases h
  rename_i t y ys ht hy
  cases hl : clearPV ctx t y S with
  | none => simp [hl] at h
  | some z =>
   simp [hl] at h; obtain ⟨rfl, rfl, rfl⟩ := h
   obtain ⟨y', h1, h2⟩ := arg0 0 y (by rw [hy]; rfl)
   obtain ⟨v, w', h5, h6⟩ := step_clear (P := P) (ty := o.type) hc hR ht h1 h2 hl
   exact OpOk.value (v := v) (w' := w') (by simp [execOp, hop, resolve, hcal, invoke, builtin, h5]) h6
 ·cases h
 ·-- a function's value
  rename_i f hcal
  split at h
  case h_2 => cases h
  rename_i f' cap hf
  have hfv := opd_sound hs f
  rw [hf] at hfv
  obtain ⟨as', bs', he, ha, hb, _, hbV⟩ := hfv.inv_fn
  have has : as' = #[] := by simpa using ha.symm
  subst has
  have hargs : ∀ (i : Nat) (c' : PV), (c.args.toList.map (opd σ) ++ cap)[i]? = some c' → V g w S.length c' ((c.args.map a.eval ++ bs').getD i undef) := by
   intro i c' hi
   rw [Array.getD_eq_getD_getElem?]
   rcases Nat.lt_or_ge i (c.args.toList.map (opd σ)).length with hl | hl
   ·rw [List.getElem?_append_left hl] at hi
    rw [Array.getElem?_append_left (by omega), ← Array.getD_eq_getD_getElem?]
    exact o2 i c' hi
   ·rw [List.getElem?_append_right hl] at hi
    rw [Array.getElem?_append_right (by omega), ← o1, ← Array.getD_eq_getD_getElem?]
    exact hbV _ c' hi
  obtain ⟨k1, k2⟩ := hcall f' _ S x S' e h w g base bd (c.args.map a.eval ++ bs') hR hgl (by simp at o1 ⊢; omega) hargs
  refine OpOk.enter (f := f') (args := c.args.map a.eval ++ bs') (w' := w) ?_ k2
  have := CallOk.run (w := w) (cargs := c.args.map a.eval ++ bs') k1
  simp only [execOp, hop, resolve, hcal, he, Deferred.ofValue, Sem.run_bind, Sem.run_pure, Result.andThen_ok, invoke, Array.empty_append]
  exact this
 ·-- a method of an interface value
  rename_i r name hcal
  split at h
  case h_2 => cases h
  rename_i f' v hm
  obtain ⟨t, y', v', he, hrun, hv⟩ := step_method (P := P) (fuel := P.types.size + Made.depth - 1) hc (opd_sound hs r) hm
  have hdep : P.types.size + Made.depth - 1 + 1 = P.types.size + Made.depth := by
   have : 0 < Made.depth := by decide
   omega
  rw [hdep] at hrun
  have hargs : ∀ (i : Nat) (c' : PV), (v :: c.args.toList.map (opd σ))[i]? = some c' → V g w S.length c' ((#[v'] ++ c.args.map a.eval).getD i undef) := by
   intro i c' hi
   rw [Array.getD_eq_getD_getElem?]
   cases i with
   | zero =>
    simp at hi; subst hi
    rw [Array.getElem?_append_left (by simp)]
    simpa using hv
   | succ i =>
    have := o2 i c' (by simpa using hi)
    rw [Array.getElem?_append_right (by simp)]
    simpa [Array.getD_eq_getD_getElem?] using this
  obtain ⟨k1, k2⟩ := hcall f' _ S x S' e h w g base bd (#[v'] ++ c.args.map a.eval) hR hgl (by simp at o1 ⊢; omega) hargs
  refine OpOk.enter (f := f') (args := #[v'] ++ c.args.map a.eval) (w' := w) ?_ k2
  have := CallOk.run (w := w) (cargs := #[v'] ++ c.args.map a.eval) k1
  have e0 : (#[Value.iface t y'] ++ c.args.map a.eval)[0]? = some (Value.iface t y') := by
   rw [Array.getElem?_append_left (by simp)]; rfl
  have e1 : (#[Value.iface t y'] ++ c.args.map a.eval).extract 1 (#[Value.iface t y'] ++ c.args.map a.eval).size = c.args.map a.eval := by
   simp
  simp only [execOp, hop, resolve, hcal, Sem.run_bind, Sem.run_pure, Result.andThen_ok, invoke, he, e0, e1, callMethod, run_program, hrun]
  exact this
theorem evStep_sound (hc : CtxTy P ctx) (hcall : CallOk P ctx call) (hR : R S w g base bd) (hgl : Gl ctx w g) (hs : Slots g w S.length σ a.tmps) (hb : base = 0 ∨ base = base') {o : Oper} {x : PV} {S' : List SObj} {e : Bool}
  (h : evStep ctx call base' σ S o.op = some (x, S', e)) : OpOk P o a w (fun v w' => Good base bd S g w x S' e v w') := by
 cases hop : o.op <;> rw [hop] at h <;> simp only [evStep] at h
 case move y =>
  injection h with h; injection h with h1 h2; injection h2 with h2 h3; subst h1; subst h2; subst h3
  exact OpOk.value (v := a.eval y) (w' := w) (by simp [execOp, hop]) (Good.same hR (opd_sound hs y))
 case assign y =>
  injection h with h; injection h with h1 h2; injection h2 with h2 h3; subst h1; subst h2; subst h3
  exact OpOk.value (v := a.eval y) (w' := w) (by simp [execOp, hop]) (Good.same hR (opd_sound hs y))
 case pick c y z =>
  split at h
  case h_2 => cases h
  rename_i t hct
  injection h with h; injection h with h1 h2; injection h2 with h2 h3; subst h1; subst h2; subst h3
  have hcv := opd_sound hs c
  rw [hct] at hcv
  have hcv := hcv.inv_bool
  refine OpOk.value (v := if t then a.eval y else a.eval z) (w' := w) (by simp [execOp, hop, hcv, asBool]) (Good.same hR ?_)
  cases t
  ·exact opd_sound hs z
  ·exact opd_sound hs y
 case alloc t =>
  split at h
  case h_2 => cases h
  rename_i ti hti
  split at h
  case isFalse => cases h
  rename_i hst
  injection h with h; injection h with h1 h2; injection h2 with h2 h3; subst h1; subst h2; subst h3
  obtain ⟨v, w', h1, h2⟩ := step_alloc hc hR hti hst
  exact OpOk.value (v := v) (w' := w') (by simp [execOp, hop, h1]) h2
 case box t y =>
  split at h
  case isFalse => cases h
  rename_i hst
  injection h with h; injection h with h1 h2; injection h2 with h2 h3; subst h1; subst h2; subst h3
  obtain ⟨v, w', h1, h2⟩ := step_box (P := P) hR hs (t := t) hst
  exact OpOk.value (v := v) (w' := w') (by simp [execOp, hop, h1]) h2
 case build t ps =>
  cases hy : buildPV ctx t (ps.toList.map fun p => (p.1, opd σ p.2)) with
  | none => simp [hy] at h
  | some y =>
   simp [hy] at h; obtain ⟨rfl, rfl, rfl⟩ := h
   obtain ⟨v, h1, h2⟩ := step_build (P := P) hc (qs := ps.map fun p => (p.1, a.eval p.2)) (by simpa using parts_sound hs ps.toList) hy
   exact OpOk.value (v := v) (w' := w) (by simp [execOp, hop, h1]) (Good.same hR h2)
 case buildSlice t m ps =>
  cases hy : buildSlicePV ctx t m (ps.toList.map fun p => (p.1, opd σ p.2)) with
  | none => simp [hy] at h
  | some y =>
   simp [hy] at h; obtain ⟨rfl, rfl, rfl⟩ := h
   obtain ⟨v, w', h1, h2⟩ := step_buildSlice (P := P) hc hR (qs := ps.map fun p => (p.1, a.eval p.2)) (by simpa using parts_sound hs ps.toList) hy
   exact OpOk.value (v := v) (w' := w') (by simp [execOp, hop, h1]) h2
 case load t p =>
  cases hy : loadPV ctx t (opd σ p) S with
  | none => simp [hy] at h
  | some y =>
   simp [hy] at h; obtain ⟨rfl, rfl, rfl⟩ := h
   obtain ⟨v, h1, h2⟩ := step_load (P := P) hc hR hs hy
   exact OpOk.value (v := v) (w' := w) (by simp [execOp, hop, h1]) (Good.same hR h2)
 case store t p y =>
  cases hy : storePV ctx base' t (opd σ p) (opd σ y) S with
  | none => simp [hy] at h
  | some z =>
   simp [hy] at h; obtain ⟨rfl, rfl, rfl⟩ := h
   obtain ⟨w', h1, h2⟩ := step_store (P := P) hc hR hs hb (show storePV ctx base' t (opd σ p) (opd σ y) S = some (z.1, z.2) from hy)
   exact OpOk.skip (w' := w') (by simp [execOp, hop, h1]) h2
 case nilCheck y =>
  have hy := opd_sound hs y
  split at h
  ·rename_i i off hx
   injection h with h; injection h with h1 h2; injection h2 with h2 h3; subst h1; subst h2; subst h3
   rw [hx] at hy
   have he := hy.inv_ptr.1
   exact OpOk.value (v := a.eval y) (w' := w) (by simp [execOp, hop, he]) (Good.same hR hy)
  ·rename_i cs off hx
   injection h with h; injection h with h1 h2; injection h2 with h2 h3; subst h1; subst h2; subst h3
   rw [hx] at hy
   obtain ⟨b, o', u, he, _⟩ := hy.inv_iptr
   exact OpOk.value (v := a.eval y) (w' := w) (by simp [execOp, hop, he]) (Good.same hR hy)
  ·rename_i t z hx
   injection h with h; injection h with h1 h2; injection h2 with h2 h3; subst h1; subst h2; subst h3
   rw [hx] at hy
   obtain ⟨z', he, _⟩ := hy.inv_ifc
   exact OpOk.value (v := a.eval y) (w' := w) (by simp [execOp, hop, he]) (Good.same hR hy)
  ·rename_i f as bs hx
   injection h with h; injection h with h1 h2; injection h2 with h2 h3; subst h1; subst h2; subst h3
   rw [hx] at hy
   obtain ⟨as', bs', he, _⟩ := hy.inv_fn
   exact OpOk.value (v := a.eval y) (w' := w) (by simp [execOp, hop, he]) (Good.same hR hy)
  ·cases h
 case binOp op t p q t' =>
  cases hy : binPV ctx op t p q (opd σ p) (opd σ q) with
  | none => simp [hy] at h
  | some y =>
   simp [hy] at h; obtain ⟨rfl, rfl, rfl⟩ := h
   obtain ⟨v, h1, h2⟩ := binPV_sound (P := P) hc (opd_sound hs p) (opd_sound hs q) hy
   refine OpOk.value (v := v) (w' := w) ?_ (Good.same hR h2)
   simp only [execOp, hop]
   rw [Sem.run_bind, h1]
   rfl
 case unOp op t p =>
  cases hy : unPV op (opd σ p) with
  | none => simp [hy] at h
  | some y =>
   simp [hy] at h; obtain ⟨rfl, rfl, rfl⟩ := h
   obtain ⟨v, h1, h2⟩ := unPV_sound (P := P) (w := w) (opd_sound hs p) hy
   exact OpOk.value (v := v) (w' := w) (by simp [execOp, hop, h1]) (Good.same hR h2)
 case convert s d p =>
  cases hy : convPV ctx s d (opd σ p) S with
  | none => simp [hy] at h
  | some z =>
   simp [hy] at h; obtain ⟨rfl, rfl, rfl⟩ := h
   obtain ⟨v, w', h1, h2⟩ := step_conv (P := P) hc hR (opd_sound hs p) (show convPV ctx s d (opd σ p) S = some (z.1, z.2) from hy)
   exact OpOk.value (v := v) (w' := w') (by simp [execOp, hop, h1]) h2
 case makeInterface t p =>
  split at h
  case h_2 => cases h
  rename_i ti hti
  have ht := hc.ty _ _ hti
  split at h
  ·cases h
  rename_i hni
  injection h with h; injection h with h1 h2; injection h2 with h2 h3; subst h1; subst h2; subst h3
  refine OpOk.value (v := .iface t (a.eval p)) (w' := w) ?_ (Good.same hR (.ifc _ _ _ (opd_sound hs p)))
  simp only [execOp, hop, Instr.makeInterface, Sem.run_bind, ht.run_und, Result.andThen_ok]
  cases hu : ti.und <;> first | (exfalso; exact hni _ hu) | rfl
 case makeFunc f as bs =>
  injection h with h; injection h with h1 h2; injection h2 with h2 h3; subst h1; subst h2; subst h3
  obtain ⟨a1, a2⟩ := opds hs as
  obtain ⟨b1, b2⟩ := opds hs bs
  exact OpOk.value (v := .func f (as.map a.eval) (bs.map a.eval)) (w' := w) (by simp [execOp, hop, Instr.makeFunc]) (Good.same hR (.fn f _ _ _ _ a1 b1 a2 b2))
 case makeSlice t l c =>
  cases hy : makeSlicePV ctx t (opd σ l) (opd σ c) S with
  | none => simp [hy] at h
  | some z =>
   simp [hy] at h; obtain ⟨rfl, rfl, rfl⟩ := h
   obtain ⟨v, w', h1, h2⟩ := step_makeSlice (P := P) hc hR (opd_sound hs l) (opd_sound hs c) (show makeSlicePV ctx t (opd σ l) (opd σ c) S = some (z.1, z.2) from hy)
   exact OpOk.value (v := v) (w' := w') (by simp [execOp, hop, h1]) h2
 case slice t p lo hi mx =>
  cases hy : slicePV ctx t (opd σ p) (lo.map (opd σ)) (hi.map (opd σ)) (mx.map (opd σ)) with
  | none => simp [hy] at h
  | some y =>
   simp [hy] at h; obtain ⟨rfl, rfl, rfl⟩ := h
   have bnd : ∀ (q : Option Operand) (d : Nat) (i : Int), boundOf (q.map (opd σ)) d = some i → (q.map a.eval = none ∧ i = d) ∨ ∃ k, q.map a.eval = some (.int k i) := by
    intro q d i hq
    refine step_bound (g := g) (w := w) (S := S) (x := q.map (opd σ)) (fun y hy => ?_) (fun hn => ?_) hq
    ·cases q with
     | none => simp at hy
     | some q => simp at hy; subst hy; exact ⟨_, rfl, opd_sound hs q⟩
    ·cases q with
     | none => rfl
     | some q => simp at hn
   obtain ⟨v, h1, h2⟩ := step_slice (P := P) (mx' := mx.map a.eval) hc (opd_sound hs p) (fun d i hd => bnd lo d i hd) (fun d i hd => bnd hi d i hd) (fun hn => by cases mx with | none => rfl | some m => simp at hn) (fun d i hd => bnd mx d i hd) hy
   exact OpOk.value (v := v) (w' := w) (by simp [execOp, hop, h1]) (Good.same hR h2)
 case fieldAddr t p i =>
  cases hy : fieldAddrPV ctx t (opd σ p) i with
  | none => simp [hy] at h
  | some y =>
   simp [hy] at h; obtain ⟨rfl, rfl, rfl⟩ := h
   obtain ⟨v, h1, h2⟩ := step_fieldAddr (P := P) hs hc hy
   exact OpOk.value (v := v) (w' := w) (by simp [execOp, hop, h1]) (Good.same hR h2)
 case field t p i =>
  split at h
  case h_2 => cases h
  rename_i fs cs hfs hcs
  split at h
  case h_2 => cases h
  rename_i f hf
  cases hy : partOf ctx f.type cs f.offset with
  | none => simp [hy] at h
  | some y =>
   simp [hy] at h; obtain ⟨rfl, rfl, rfl⟩ := h
   obtain ⟨v, h1, h2⟩ := step_field (P := P) hs hc hfs hcs hf hy
   exact OpOk.value (v := v) (w' := w) (by simp [execOp, hop, h1]) (Good.same hR h2)
 case indexAddr t p i =>
  split at h
  case h_2 => cases h
  rename_i k m hi
  cases hy : indexAddrPV ctx t (opd σ p) m with
  | none => simp [hy] at h
  | some y =>
   simp [hy] at h; obtain ⟨rfl, rfl, rfl⟩ := h
   have hiv := opd_sound hs i
   rw [hi] at hiv
   obtain ⟨v, h1, h2⟩ := step_indexAddr (P := P) hc (opd_sound hs p) hiv.inv_int hy
   exact OpOk.value (v := v) (w' := w) (by simp [execOp, hop, h1]) (Good.same hR h2)
 case index t p i =>
  split at h
  case h_2 => cases h
  rename_i k m hi
  cases hy : indexPV ctx t (opd σ p) m with
  | none => simp [hy] at h
  | some y =>
   simp [hy] at h; obtain ⟨rfl, rfl, rfl⟩ := h
   have hiv := opd_sound hs i
   rw [hi] at hiv
   obtain ⟨v, h1, h2⟩ := step_index (P := P) hc (opd_sound hs p) hiv.inv_int hy
   exact OpOk.value (v := v) (w' := w) (by simp [execOp, hop, h1]) (Good.same hR h2)
 case typeAssert p xt t ok =>
  cases hy : assertPV ctx (opd σ p) t ok with
  | none => simp [hy] at h
  | some y =>
   simp [hy] at h; obtain ⟨rfl, rfl, rfl⟩ := h
   obtain ⟨v, h1, h2⟩ := step_assert (P := P) (xt := xt) hc (opd_sound hs p) hy
   exact OpOk.value (v := v) (w' := w) (by simp [execOp, hop, h1]) (Good.same hR h2)
 case extract p i =>
  split at h
  case h_2 => cases h
  rename_i vs hvs
  cases hy : vs[i]? with
  | none => simp [hy] at h
  | some y =>
   simp [hy] at h; obtain ⟨rfl, rfl, rfl⟩ := h
   have hp := opd_sound hs p
   rw [hvs] at hp
   obtain ⟨vs', he, h1, h2⟩ := hp.inv_tup
   have hV := h2 i _ hy
   have hlt : i < vs'.size := by have := (List.getElem?_eq_some_iff.1 hy).1; omega
   rw [Array.getD_eq_getD_getElem?, Array.getElem?_eq_getElem hlt] at hV
   exact OpOk.value (v := vs'[i]) (w' := w) (by simp [execOp, hop, he, Instr.extract, Array.getElem?_eq_getElem hlt]) (Good.same hR hV)
 case call c =>
  exact callPV_sound hc hcall hR hgl hs hop h
 case lookup t m k ok =>
  cases hy : lookupPV ctx t (opd σ m) (opd σ k) ok S with
  | none => simp [hy] at h
  | some y =>
   simp [hy] at h; obtain ⟨rfl, rfl, rfl⟩ := h
   obtain ⟨v, h1, h2⟩ := step_lookup (P := P) hc hR (opd_sound hs m) (opd_sound hs k) hy
   exact OpOk.value (v := v) (w' := w) (by simp [execOp, hop, h1]) (Good.same hR h2)
 case mapUpdate t m k y =>
  cases hy : mapUpdPV ctx base' t (opd σ m) (opd σ k) (opd σ y) S with
  | none => simp [hy] at h
  | some z =>
   simp [hy] at h; obtain ⟨rfl, rfl, rfl⟩ := h
   obtain ⟨w', h1, h2⟩ := step_mapUpdate (P := P) hc hR hb (opd_sound hs m) (opd_sound hs k) (opd_sound hs y) (show mapUpdPV ctx base' t (opd σ m) (opd σ k) (opd σ y) S = some (z.1, z.2) from hy)
   exact OpOk.skip (w' := w') (by simp [execOp, hop, h1]) h2
 case insert t m k y =>
  cases hy : mapUpdPV ctx base' t (opd σ m) (opd σ k) (opd σ y) S with
  | none => simp [hy] at h
  | some z =>
   simp [hy] at h; obtain ⟨rfl, rfl, rfl⟩ := h
   obtain ⟨w', h1, h2⟩ := step_mapUpdate (P := P) hc hR hb (opd_sound hs m) (opd_sound hs k) (opd_sound hs y) (show mapUpdPV ctx base' t (opd σ m) (opd σ k) (opd σ y) S = some (z.1, z.2) from hy)
   exact OpOk.skip (w' := w') (by simp [execOp, hop, h1]) h2
 case mapEntry t m k =>
  cases hy : mapEntryPV ctx t (opd σ m) (opd σ k) S with
  | none => simp [hy] at h
  | some z =>
   simp [hy] at h; obtain ⟨rfl, rfl, rfl⟩ := h
   obtain ⟨v, w', h1, h2⟩ := step_mapEntry (P := P) hc hR (opd_sound hs m) (opd_sound hs k) (show mapEntryPV ctx t (opd σ m) (opd σ k) S = some (z.1, z.2) from hy)
   exact OpOk.value (v := v) (w' := w') (by simp [execOp, hop, h1]) h2
 case entryStore t m st y =>
  cases hy : entryStorePV base' (opd σ m) (opd σ st) (opd σ y) S with
  | none => simp [hy] at h
  | some z =>
   simp [hy] at h; obtain ⟨rfl, rfl, rfl⟩ := h
   obtain ⟨w', h1, h2⟩ := step_entryStore (P := P) (t := t) hc hR hb (opd_sound hs m) (opd_sound hs st) (opd_sound hs y) (show entryStorePV base' (opd σ m) (opd σ st) (opd σ y) S = some (z.1, z.2) from hy)
   exact OpOk.skip (w' := w') (by simp [execOp, hop, h1]) h2
 case range t m =>
  cases hy : rangePV ctx t (opd σ m) S with
  | none => simp [hy] at h
  | some z =>
   simp [hy] at h; obtain ⟨rfl, rfl, rfl⟩ := h
   obtain ⟨v, w', h1, h2⟩ := step_range (P := P) hc hR (opd_sound hs m) (show rangePV ctx t (opd σ m) S = some (z.1, z.2) from hy)
   exact OpOk.value (v := v) (w' := w') (by simp [execOp, hop, h1]) h2
 case entry it =>
  cases hy : entryPV (opd σ it) S with
  | none => simp [hy] at h
  | some y =>
   simp [hy] at h; obtain ⟨rfl, rfl, rfl⟩ := h
   obtain ⟨v, h1, h2⟩ := step_entry (P := P) hR (opd_sound hs it) hy
   exact OpOk.value (v := v) (w' := w) (by simp [execOp, hop, h1]) (Good.same hR h2)
 case next it b =>
  cases b with
  | true => simp at h
  | false =>
  simp only at h
  cases hy : nextPV (opd σ it) S with
  | none => simp [hy] at h
  | some z =>
   simp [hy] at h; obtain ⟨rfl, rfl, rfl⟩ := h
   obtain ⟨v, w', h1, h2⟩ := step_next (P := P) (ty := o.type) hR (opd_sound hs it) (show nextPV (opd σ it) S = some (z.1, z.2) from hy)
   exact OpOk.value (v := v) (w' := w') (by simp [execOp, hop, h1]) h2
 case makeMap t r =>
  cases r with
  | some r => simp at h
  | none =>
  simp only at h
  split at h
  case h_2 => cases h
  rename_i ti hti
  split at h
  case h_2 => cases h
  rename_i kt et hu
  injection h with h; injection h with h1 h2; injection h2 with h2 h3; subst h1; subst h2; subst h3
  obtain ⟨v, w', h1, h2⟩ := step_makeMap (P := P) hc hR hti hu
  exact OpOk.value (v := v) (w' := w') (by simp [execOp, hop, h1]) h2
 all_goals cases h
theorem birthPV_sound (hc : CtxTy P ctx) (hR : R S w g base bd) (hs : Slots g w S.length σ a.tmps) {o : Oper} {x : PV} {S' : List SObj}
  (h : birthPV ctx σ S o.op = some (x, S')) : OpOk P o a w (fun v w' => Good base bd S g w x S' false v w') := by
 cases hop : o.op <;> rw [hop] at h <;> simp only [birthPV] at h
 case load t p =>
  cases hy : loadPV ctx t (opd σ p) S with
  | none => simp [hy] at h
  | some y =>
   simp [hy] at h; obtain ⟨rfl, rfl⟩ := h
   obtain ⟨v, h1, h2⟩ := step_load (P := P) hc hR hs hy
   exact OpOk.value (v := v) (w' := w) (by simp [execOp, hop, h1]) (Good.same hR h2)
 case makeSlice t l c =>
  split at h
  case h_2 => cases h
  rename_i ti k n k' m hti hl hcc
  split at h
  case h_2 => cases h
  rename_i e hund
  split at h
  case h_2 => cases h
  rename_i ei hei
  split at h
  case isFalse => cases h
  rename_i hn
  injection h with h; injection h with h1 h2; subst h1; subst h2
  have hlv := opd_sound hs l
  have hcv := opd_sound hs c
  rw [hl] at hlv
  rw [hcc] at hcv
  obtain ⟨v, w', h1, h2⟩ := born_makeSlice (P := P) hc hR hlv hcv hti hund hei hn
  exact OpOk.value (v := v) (w' := w') (by simp [execOp, hop, h1]) h2
 case alloc t =>
  split at h
  case h_2 => cases h
  rename_i ti hti
  split at h
  case h_3 => cases h
  ·rename_i n e hund
   split at h
   case h_2 => cases h
   rename_i ei hei
   split at h
   case isFalse => cases h
   rename_i hn
   injection h with h; injection h with h1 h2; subst h1; subst h2
   obtain ⟨v, w', h1, h2⟩ := born_alloc (P := P) hc hR hti hund hei hn.1 hn.2.1 hn.2.2
   exact OpOk.value (v := v) (w' := w') (by simp [execOp, hop, h1]) h2
  ·split at h
   case isFalse => cases h
   rename_i hz0
   injection h with h; injection h with h1 h2; subst h1; subst h2
   obtain ⟨v, w', h1, h2⟩ := born_bld (P := P) hc hR hti hz0
   exact OpOk.value (v := v) (w' := w') (by simp [execOp, hop, h1]) h2
 case buildSlice t m ps =>
  split at h
  case h_2 => cases h
  rename_i ti hti
  split at h
  case h_2 => cases h
  rename_i e hund
  split at h
  case h_2 => cases h
  rename_i ei xs hei hy
  injection h with h; injection h with h1 h2; subst h1; subst h2
  obtain ⟨v, w', h1, h2⟩ := born_buildSlice (P := P) hc hR hti hund hei (qs := ps.map fun p => (p.1, a.eval p.2)) (by simpa using parts_sound hs ps.toList) hy
  exact OpOk.value (v := v) (w' := w') (by simp [execOp, hop, h1]) h2
 case convert s d p =>
  split at h
  case h_2 => cases h
  rename_i xs id S1 hy
  injection h with h; injection h with h1 h2; subst h1; subst h2
  obtain ⟨v, w', h1, h2⟩ := born_conv (P := P) hc hR (opd_sound hs p) hy
  exact OpOk.value (v := v) (w' := w') (by simp [execOp, hop, h1]) h2
 case call c =>
  split at h
  case h_2 => cases h
  rename_i s y ys hcal hy
  obtain ⟨o1, o2⟩ := opds hs c.args
  have arg0 : ∀ (k : Nat) (y : PV), (c.args.toList.map (opd σ))[k]? = some y → ∃ y', (c.args.map a.eval)[k]? = some y' ∧ V g w S.length y y' := by
   intro k y hk
   have hl : k < (c.args.map a.eval).size := by have := (List.getElem?_eq_some_iff.1 hk).1; omega
   have := o2 k y hk
   rw [Array.getD_eq_getD_getElem?, Array.getElem?_eq_getElem hl] at this
   exact ⟨_, Array.getElem?_eq_getElem hl, this⟩
  obtain ⟨s', h1, h2⟩ := arg0 0 s (by rw [hy]; rfl)
  obtain ⟨y', h3, h4⟩ := arg0 1 y (by rw [hy]; rfl)
  -- nothing appended: as it was
  have plain : ∀ (s0 : PV), s = s0 → appendPV ctx c.argTypes s0 y S = some (x, S') → OpOk P o a w (fun v w' => Good base bd S g w x S' false v w') := by
   rintro s0 rfl hl
   obtain ⟨v, w', h5, h6⟩ := step_append (P := P) (ty := o.type) hc hR h1 h3 h2 h4 hl
   exact OpOk.value (v := v) (w' := w') (by simp [execOp, hop, resolve, hcal, invoke, builtin, h5]) h6
  have born : ∀ (A : Option Addr), s' = .slice A 0 0 → listOf y ≠ some [] → birthPV.bornApp ctx c.argTypes y S = some (x, S') → OpOk P o a w (fun v w' => Good base bd S g w x S' false v w') := by
   rintro A rfl hne hl
   obtain ⟨v, w', h5, h6⟩ := born_append (P := P) (ty := o.type) hc hR h1 h3 h4 hl hne
   exact OpOk.value (v := v) (w' := w') (by simp [execOp, hop, resolve, hcal, invoke, builtin, h5]) h6
  split at h
  ·split at h
   ·exact plain _ rfl h
   ·rename_i hne
    exact born none h2.inv_nils (fun he => hne he) h
  ·split at h
   ·exact plain _ rfl h
   ·rename_i hne
    obtain ⟨A, hA⟩ := h2.inv_emp
    exact born (some A) hA (fun he => hne he) h
  ·have e0 := truncS_len s S
   obtain ⟨v, w', h5, h6⟩ := step_append (P := P) (ty := o.type) hc (truncS_sound hR s) h1 h3 (by rw [e0]; exact h2) (by rw [e0]; exact h4) h
   exact OpOk.value (v := v) (w' := w') (by simp [execOp, hop, resolve, hcal, invoke, builtin, h5]) h6.trunc
 all_goals cases h
theorem V.ghost {g g' : G} {w : World} {x : PV} {v : Value} (h : V g w 0 x v) (hpp : g'.pp = g.pp) : V g' w 0 x v := by
 induction h with
 | poison v => exact .poison v
 | bool b => exact .bool b
 | int k i => exact .int k i
 | str s => exact .str s
 | nilp => exact .nilp
 | ptr id off h ho => omega
 | iptr cells off b o u h1 h2 _ h4 ih => exact .iptr cells off b o u (by rw [hpp]; exact h1) h2 ih h4
 | nils => exact .nils
 | lst xs tag b o cap sz u hc h1 h2 h3 _ h5 ht ih =>
  refine .lst xs tag b o cap sz u hc h1 (by rw [hpp]; exact h2) h3 ih h5 ?_
  cases tag with
  | none => trivial
  | full => exact ht
  | tip id => exact absurd ht.1 (by omega)
 | lst0 a => exact .lst0 a
 | hsl id off len cap h ho hc => omega
 | emp a => exact .emp a
 | rsl id len h ho hc => omega
 | nilm => exact .nilm
 | map id h ho => omega
 | nilf => exact .nilf
 | fn f as bs as' bs' ha hb _ _ ih1 ih2 => exact .fn f as bs as' bs' ha hb ih1 ih2
 | nili => exact .nili
 | ifc t v v' _ ih => exact .ifc t v v' ih
 | agg cs cs' hl _ h2 ih => exact .agg cs cs' hl ih h2
 | tup cs cs' hl _ ih => exact .tup cs cs' hl ih
theorem behind_pure {S S1 : List SObj} {w w1 : World} {g g1 : G} {base b1 : Nat} {bd bd1 : Nat → Nat} (hR : R S w g base bd) (h1 : R S1 w1 g1 b1 bd1)
  (ev1 : Evo 0 { g with fix := fun k => k < w.heap.size } w g1 w1) {x : PV} {v : Value} (hV : V g1 w1 0 x v) : Good base bd S g w x S false v w1 := by
 have low : ∀ k, k < w.heap.size → w1.heap[k]? = w.heap[k]? := ev1.low
 have plow : ∀ k, k < w.heap.size → g1.pp k = g.pp k := ev1.pplow
 let g2 : G := { fix := g.fix, pp := g1.pp, loc := g.loc, hw := g.hw, tsz := g.tsz, obj := g.obj }
 have evo : Evo S.length g w g2 w1 := by
  refine ⟨ev1.pp, ev1.cell, fun _ _ => rfl, fun _ _ _ => rfl, fun _ _ => rfl, fun _ _ => Nat.le_refl _, fun _ _ _ => rfl, ?_, ev1.size, rfl, fun k hk => low k (hR.hfix k hk), fun k hk => plow k (hR.hfix k hk), ev1.os, ev1.tape, ev1.output⟩
  intro id cap _ _ _ ht
  have hlt := ht.lt
  exact TipC.heap (g := g) rfl rfl rfl (plow _ hlt) (low _ hlt) ht
 refine ⟨g2, (V.ghost (g' := g2) hV rfl).mono (Nat.zero_le _), ?_, evo, Nat.le_refl _⟩
 simp only [Bool.false_eq_true, if_false]
 refine ⟨hR.hbase, hR.hbd, fun k hk => by have := hR.hfix k hk; have := ev1.size; omega, h1.hpp, fun id o ho => ?_, hR.inj⟩
 have hl := hR.live id o ho
 refine hl.evo (evo.mono (lim_le hR id)) rfl rfl rfl rfl (fun hd _ => ?_)
 have hlt := hl.loc_lt hd
 exact ⟨low _ hlt, plow _ hlt⟩
theorem callV_spec {op : Op} {c : Go.Call} (h : callV op = some c) : op = .call c ∧ ∃ f, c.callee = .value f := by
 unfold callV at h
 split at h
 ·split at h
  ·rename_i f hf
   injection h with h; subst h
   exact ⟨rfl, f, hf⟩
  ·cases h
 ·cases h
theorem purePV_sound (hcall : CallOk P ctx call) (hR : R S w g base bd) (hgl : Gl ctx w g) (hs : Slots g w S.length σ a.tmps) {o : Oper} {c : Go.Call} (hop : o.op = .call c) {x : PV}
  (h : purePV call σ c = some x) : OpOk P o a w (fun v w' => Good base bd S g w x S false v w') := by
 obtain ⟨o1, o2⟩ := opds hs c.args
 unfold purePV at h
 split at h
 case h_2 => cases h
 rename_i f hcal
 split at h
 case h_2 => cases h
 rename_i f' cap hf
 split at h
 case isFalse => cases h
 rename_i hcl
 split at h
 case h_2 => cases h
 rename_i v1 S1 e1 hcall1
 split at h
 case isFalse => cases h
 rename_i hvc
 injection h with h; subst h
 have hfv := opd_sound hs f
 rw [hf] at hfv
 obtain ⟨as', bs', he, ha, hb, _, hbV⟩ := hfv.inv_fn
 have has : as' = #[] := by simpa using ha.symm
 subst has
 have hargs : ∀ (i : Nat) (c' : PV), (c.args.toList.map (opd σ) ++ cap)[i]? = some c' → V g w S.length c' ((c.args.map a.eval ++ bs').getD i undef) := by
  intro i c' hi
  rw [Array.getD_eq_getD_getElem?]
  rcases Nat.lt_or_ge i (c.args.toList.map (opd σ)).length with hl | hl
  ·rw [List.getElem?_append_left hl] at hi
   rw [Array.getElem?_append_left (by omega), ← Array.getD_eq_getD_getElem?]
   exact o2 i c' hi
  ·rw [List.getElem?_append_right hl] at hi
   rw [Array.getElem?_append_right (by omega), ← o1, ← Array.getD_eq_getD_getElem?]
   exact hbV _ c' hi
 have hR0 : R [] w { g with fix := fun k => k < w.heap.size } 0 (fun _ => 0) :=
  ⟨Nat.le_refl _, fun _ _ => Nat.le_refl _, fun _ hk => hk, hR.hpp, fun id o ho => by simp at ho, fun i j o p ho => by simp at ho⟩
 obtain ⟨k1, k2⟩ := hcall f' _ [] v1 S1 e1 hcall1 w { g with fix := fun k => k < w.heap.size } 0 (fun _ => 0) (c.args.map a.eval ++ bs') hR0 hgl.all (by simp at o1 ⊢; omega) (fun i d hi => by
  have hcm := cleanL_mem hcl hi
  rw [List.getElem?_map] at hi
  cases hi' : (c.args.toList.map (opd σ) ++ cap)[i]? with
  | none => rw [hi'] at hi; cases hi
  | some z => rw [hi'] at hi; injection hi with hi; subst hi; exact ((hargs i z hi').strip.clean hcm).ghost rfl)
 refine OpOk.enter (f := f') (args := c.args.map a.eval ++ bs') (w' := w) ?_ (k2.mono ?_)
 ·have := CallOk.run (w := w) (cargs := c.args.map a.eval ++ bs') k1
  simp only [execOp, hop, resolve, hcal, he, Deferred.ofValue, Sem.run_bind, Sem.run_pure, Result.andThen_ok, invoke, Array.empty_append]
  exact this
 ·rintro en w' ⟨rv, rfl, g', q1, q2, q3, q4⟩
  exact ⟨rv, rfl, behind_pure hR q2 q3 (q1.strip.clean hvc)⟩
theorem birthF_sound (hc : CtxTy P ctx) (hcall : CallOk P ctx call) (hR : R S w g base bd) (hgl : Gl ctx w g) (hs : Slots g w S.length σ a.tmps) {o : Oper} {x : PV} {S' : List SObj}
  (h : birthF ctx call σ S o.op = some (x, S')) : OpOk P o a w (fun v w' => Good base bd S g w x S' false v w') := by
 unfold birthF at h
 split at h
 ·rename_i c hcv
  cases hq : purePV call σ c with
  | none => rw [hq] at h; cases h
  | some u =>
   rw [hq] at h
   simp only [Option.map_some, Option.some.injEq, Prod.mk.injEq] at h
   obtain ⟨rfl, rfl⟩ := h
   exact purePV_sound hcall hR hgl hs (callV_spec hcv).1 hq
 ·exact birthPV_sound hc hR hs h
theorem evStepF_sound (hc : CtxTy P ctx) (hcall : CallOk P ctx call) (hR : R S w g base bd) (hgl : Gl ctx w g) (hs : Slots g w S.length σ a.tmps) (hb : base = 0 ∨ base = base') {o : Oper} {p : POp} (hop : p.op = o.op) {x : PV} {S' : List SObj} {e : Bool}
  (h : evStepF ctx call base' σ S p = some (x, S', e)) : OpOk P o a w (fun v w' => Good base bd S g w x S' e v w') := by
 unfold evStepF at h
 obtain ⟨g1, r1, e1, s1⟩ := frzT_sound (frzArgs ctx σ p.op) σ S g hR hs
 have hlen := frzT_len (frzArgs ctx σ p.op) σ S
 generalize frzT (frzArgs ctx σ p.op) σ S = q at h r1 s1 hlen
 obtain ⟨σ1, S1⟩ := q
 simp only at h r1 s1 hlen
 rw [← hlen] at s1
 have back : ∀ {v : Value} {w' : World}, Good base bd S1 g1 w x S' e v w' → Good base bd S g w x S' e v w' := by
  rintro v w' ⟨g2, k1, k2, k3, k4⟩
  rw [hlen] at k3 k4
  exact ⟨g2, k1, k2, e1.trans k3, k4⟩
 have mono : ∀ {Post Post' : Value → World → Prop}, OpOk P o a w Post → (∀ v w', Post v w' → Post' v w') → OpOk P o a w Post' := by
  intro Post Post' h1 h2 next Q hn
  exact h1 next Q (fun v w' hp => hn v w' (h2 v w' hp))
 rw [hop] at h
 split at h
 ·cases hy : birthF ctx call σ1 S1 o.op with
  | none => rw [hy] at h; cases h
  | some z =>
   rw [hy] at h
   simp only [Option.map_some, Option.some.injEq, Prod.mk.injEq] at h
   obtain ⟨rfl, rfl, rfl⟩ := h
   exact mono (birthF_sound hc hcall r1 (hgl.evo e1) s1 hy) (fun v w' => back)
 ·exact mono (evStep_sound hc hcall r1 (hgl.evo e1) s1 hb h) (fun v w' => back)
end
end Go.Pam
namespace Go.Pam
theorem sameKV_eq : ∀ (x y : List (PV × PV)), sameKV x y = true → x = y
 | [], y, h => by cases y <;> simp_all [sameKV]
 | (a, b) :: xs, y, h => by
  cases y with
  | nil => simp [sameKV] at h
  | cons q ys =>
   obtain ⟨c, d⟩ := q
   simp only [sameKV, Bool.and_eq_true] at h
   rw [PV.same_eq a _ h.1.1, PV.same_eq b _ h.1.2, sameKV_eq xs _ h.2]
theorem sameS_eq : ∀ (x y : List SObj), sameS x y = true → x = y
 | [], y, h => by cases y <;> simp_all [sameS]
 | x :: xs, y, h => by
  cases y with
  | nil => simp [sameS] at h
  | cons y ys =>
   simp only [sameS, Bool.and_eq_true] at h
   rw [sameS_eq xs _ h.2]
   have h1 := h.1
   cases x <;> cases y <;> simp only [SObj.same, Bool.and_eq_true, reduceCtorEq] at h1
   ·rw [sameL_eq _ _ h1]
   ·rw [sameKV_eq _ _ h1]
   ·rw [beq_iff_eq.1 h1.1, beq_iff_eq.1 h1.2]
   ·rfl
   ·rw [sameL_eq _ _ h1.1.1, beq_iff_eq.1 h1.1.2, beq_iff_eq.1 h1.2]
   ·rw [beq_iff_eq.1 h1.1.1, beq_iff_eq.1 h1.1.2, beq_iff_eq.1 h1.2]
   ·rw [beq_iff_eq.1 h1.1, beq_iff_eq.1 h1.2]
   ·rw [beq_iff_eq.1 h1.1.1, beq_iff_eq.1 h1.1.2, beq_iff_eq.1 h1.2]
theorem opd_congr {σ σ' : Nat → PV} {x : Operand} (h : ∀ t, x = .tmp t → σ t = σ' t) : opd σ x = opd σ' x := by
 cases x <;> first | rfl | exact h _ rfl
theorem callPV_congr {ctx : Ctx} {call : Call'} {σ σ' : Nat → PV} {S : List SObj} (c : Go.Call) (h : ∀ x ∈ c.operands, opd σ x = opd σ' x) : callPV ctx call σ S c = callPV ctx call σ' S c := by
 have hargs : c.args.toList.map (opd σ) = c.args.toList.map (opd σ') := List.map_congr_left fun x hx => h x (by simp [Call.operands]; exact .inr (by simpa using hx))
 unfold callPV
 rw [hargs]
 cases hc : c.callee with
 | value f => have hf : opd σ f = opd σ' f := h f (by simp [Call.operands, hc]); simp only [hf]
 | invoke r m => have hr : opd σ r = opd σ' r := h r (by simp [Call.operands, hc]); simp only [hr]
 | builtin b => cases b <;> rfl
theorem evStep_congr {ctx : Ctx} {call : Call'} {base : Nat} {σ σ' : Nat → PV} {S : List SObj} (op : Op) (h : ∀ x ∈ op.operands, opd σ x = opd σ' x) : evStep ctx call base σ S op = evStep ctx call base σ' S op := by
 have pairs : ∀ ps : Array (Nat × Operand), (∀ x ∈ ps.map (·.2), opd σ x = opd σ' x) →
   (ps.toList.map fun p => (p.1, opd σ p.2)) = (ps.toList.map fun p => (p.1, opd σ' p.2)) := fun ps hp =>
  List.map_congr_left fun p hm => by
   rw [hp p.2 (Array.mem_map.2 ⟨p, by simpa using hm, rfl⟩)]
 cases op <;> simp only [Op.operands] at h <;> simp only [evStep]
 case build t ps => rw [pairs ps fun x hx => h x (by simpa using hx)]
 case buildSlice t n ps => rw [pairs ps fun x hx => h x (by simpa using hx)]
 case makeFunc fn first captured =>
  rw [List.map_congr_left (l := first.toList) fun x hx => h x (by simp at hx; simp [hx]), List.map_congr_left (l := captured.toList) fun x hx => h x (by simp at hx; simp [hx])]
 case call c => exact callPV_congr c h
 case slice t x lo hi mx => cases lo <;> cases hi <;> cases mx <;> simp_all
 case makeMap t r => cases r <;> rfl
 case next it b => cases b <;> simp_all
 all_goals (first | rfl | (simp_all; done))
theorem frzArgs_mem {ctx : Ctx} {σ : Nat → PV} (op : Op) : ∀ x ∈ frzArgs ctx σ op, x ∈ op.operands := by
 intro x hx
 cases op <;> simp only [frzArgs, Op.operands] at hx ⊢ <;> try (simp at hx; done)
 all_goals try (simp_all; done)
 case call c =>
  have harg : ∀ y ∈ c.args.toList, y ∈ c.operands := fun y hy => by simp [Call.operands]; exact .inr (by simpa using hy)
  cases hc : c.callee with
  | value f =>
   simp only [hc] at hx
   split at hx
   ·split at hx
    ·cases hx
    ·exact harg x hx
   ·exact harg x hx
  | invoke r m => simp only [hc] at hx; exact harg x hx
  | builtin b =>
   simp only [hc] at hx
   cases b <;> simp only at hx <;> first | (cases hx; done) | exact harg x (List.mem_of_mem_drop hx)
theorem frzArgs_congr {ctx : Ctx} {σ σ' : Nat → PV} (op : Op) (h : ∀ x ∈ op.operands, opd σ x = opd σ' x) : frzArgs ctx σ op = frzArgs ctx σ' op := by
 cases op <;> try rfl
 case call c =>
  simp only [frzArgs]
  cases hc : c.callee with
  | value f =>
   have hf : opd σ f = opd σ' f := h f (by simp [Op.operands, Call.operands, hc])
   simp only [hf]
  | invoke r m => rfl
  | builtin b => cases b <;> rfl
theorem frzT_congr {L : List Operand} : ∀ (xs : List Operand) (σ σ' : Nat → PV) (S : List SObj), (∀ x ∈ xs, x ∈ L) → (∀ x ∈ L, opd σ x = opd σ' x) →
  (frzT xs σ S).2 = (frzT xs σ' S).2 ∧ ∀ x ∈ L, opd (frzT xs σ S).1 x = opd (frzT xs σ' S).1 x
 | [], _, _, _, _, h => ⟨rfl, h⟩
 | .tmp t :: xs, σ, σ', S, hx, h => by
  have ht : σ t = σ' t := h (.tmp t) (hx _ List.mem_cons_self)
  simp only [frzT, ht]
  split
  case h_2 => exact frzT_congr xs σ σ' S (fun x hm => hx x (List.mem_cons_of_mem _ hm)) h
  refine frzT_congr xs _ _ _ (fun x hm => hx x (List.mem_cons_of_mem _ hm)) (fun x hm => ?_)
  cases x with
  | tmp s =>
   have := h (.tmp s) hm
   simp only [opd, upd] at this ⊢
   split
   ·rfl
   ·exact this
  | const v => rfl
  | global i => rfl
  | func f => rfl
 | .const _ :: xs, σ, σ', S, hx, h => frzT_congr xs σ σ' S (fun x hm => hx x (List.mem_cons_of_mem _ hm)) h
 | .global _ :: xs, σ, σ', S, hx, h => frzT_congr xs σ σ' S (fun x hm => hx x (List.mem_cons_of_mem _ hm)) h
 | .func _ :: xs, σ, σ', S, hx, h => frzT_congr xs σ σ' S (fun x hm => hx x (List.mem_cons_of_mem _ hm)) h
theorem birthPV_congr {ctx : Ctx} {σ σ' : Nat → PV} {S : List SObj} (op : Op) (h : ∀ x ∈ op.operands, opd σ x = opd σ' x) : birthPV ctx σ S op = birthPV ctx σ' S op := by
 have pairs : ∀ ps : Array (Nat × Operand), (∀ x ∈ ps.map (·.2), opd σ x = opd σ' x) →
   (ps.toList.map fun p => (p.1, opd σ p.2)) = (ps.toList.map fun p => (p.1, opd σ' p.2)) := fun ps hp =>
  List.map_congr_left fun p hm => by
   rw [hp p.2 (Array.mem_map.2 ⟨p, by simpa using hm, rfl⟩)]
 cases op <;> simp only [Op.operands] at h <;> simp only [birthPV]
 case buildSlice t n ps => rw [pairs ps fun x hx => h x (by simpa using hx)]
 case call c =>
  have hargs : c.args.toList.map (opd σ) = c.args.toList.map (opd σ') := List.map_congr_left fun x hx => h x (by simp [Call.operands]; exact .inr (by simpa using hx))
  rw [hargs]
 all_goals (first | rfl | (simp_all; done))
theorem birthF_congr {ctx : Ctx} {call : Call'} {σ σ' : Nat → PV} {S : List SObj} (op : Op) (h : ∀ x ∈ op.operands, opd σ x = opd σ' x) : birthF ctx call σ S op = birthF ctx call σ' S op := by
 unfold birthF
 split
 ·rename_i c hc
  have hp : purePV call σ c = purePV call σ' c := by
   have hop : op = .call c := by
    unfold callV at hc
    split at hc
    ·split at hc
     ·injection hc with hc; rw [hc]
     ·cases hc
    ·cases hc
   subst hop
   unfold purePV
   split
   ·rename_i f hf
    rw [h f (by simp [Op.operands, Call.operands, hf])]
    have hargs : c.args.toList.map (opd σ) = c.args.toList.map (opd σ') := List.map_congr_left fun x hx => h x (by simp [Op.operands, Call.operands]; exact .inr (by simpa using hx))
    rw [hargs]
   ·rfl
  rw [hp]
 ·exact birthPV_congr op h
theorem evStepF_congr {ctx : Ctx} {call : Call'} {base : Nat} {σ σ' : Nat → PV} {S : List SObj} (p : POp) (h : ∀ x ∈ p.op.operands, opd σ x = opd σ' x) : evStepF ctx call base σ S p = evStepF ctx call base σ' S p := by
 unfold evStepF
 rw [frzArgs_congr p.op h]
 obtain ⟨h1, h2⟩ := frzT_congr (L := p.op.operands.toList) (frzArgs ctx σ' p.op) σ σ' S (fun x hx => by simpa using frzArgs_mem p.op x hx) (fun x hx => h x (by simpa using hx))
 have h2 : ∀ x ∈ p.op.operands, opd (frzT (frzArgs ctx σ' p.op) σ S).1 x = opd (frzT (frzArgs ctx σ' p.op) σ' S).1 x := fun x hx => h2 x (by simpa using hx)
 simp only
 rw [h1, birthF_congr p.op h2, evStep_congr p.op h2]
theorem wantedPV_congr {σ σ' : Nat → PV} {g : Option (Nat × Bool)} (h : ∀ t w, g = some (t, w) → σ t = σ' t) : wantedPV σ g = wantedPV σ' g := by
 cases g with
 | none => rfl
 | some q => obtain ⟨t, w⟩ := q; simp only [wantedPV, h t w rfl]
theorem mem_looks_op {p : POp} {t : Nat} (h : .tmp t ∈ p.op.operands) : t ∈ p.looks :=
 List.mem_append_left _ (List.mem_filterMap.2 ⟨.tmp t, by simpa using h, rfl⟩)
theorem mem_looks_guard {p : POp} {t : Nat} {w : Bool} (h : p.guard = some (t, w)) : t ∈ p.looks := by
 unfold POp.looks
 rw [h]
 exact List.mem_append_right _ (by simp)
section
variable {ctx : Ctx} {call : Call'} {fr : Fr} {S : List SObj}
def HeadAt (ctx : Ctx) (call : Call') (fr : Fr) (S : List SObj) (p : POp) (σ : Nat → PV) (v : PV) : Prop :=
 dstOk fr.ntmps p.dst = true ∧ ((wantedPV σ p.guard = some true ∧ evStepF ctx call fr.base σ S p = some (v, S, false)) ∨ (wantedPV σ p.guard = some false ∧ v = .tup []))
theorem HeadAt.congr {p : POp} {σ σ' : Nat → PV} {v : PV} (h : HeadAt ctx call fr S p σ v) (hs : ∀ t ∈ p.looks, σ t = σ' t) : HeadAt ctx call fr S p σ' v := by
 have hw : wantedPV σ p.guard = wantedPV σ' p.guard := wantedPV_congr fun t w hg => hs t (mem_looks_guard hg)
 have he : evStepF ctx call fr.base σ S p = evStepF ctx call fr.base σ' S p := evStepF_congr _ fun x hx => opd_congr fun t ht => hs t (mem_looks_op (by rw [← ht]; exact hx))
 unfold HeadAt at *
 rw [← hw, ← he]; exact h
def lex : List POp → List PV → (Nat → PV) → Nat → Nat → PV
 | p :: l, v :: vs, σ, k + 1 => lex l vs (upd σ p.dst v) k
 | _, _, σ, _ => σ
theorem head_trace : ∀ (l : List POp) (σ σ' : Nat → PV), evHead ctx call fr S l σ = some σ' →
  ∃ vs : List PV, vs.length = l.length ∧ lex l vs σ l.length = σ' ∧ ∀ (i : Nat) (p : POp), l[i]? = some p → HeadAt ctx call fr S p (lex l vs σ i) (vs.getD i .poison)
 | [], σ, σ', h => by
  simp only [evHead] at h
  injection h with h; subst h
  exact ⟨[], rfl, rfl, fun i p hi => by simp at hi⟩
 | p :: l, σ, σ', h => by
  simp only [evHead] at h
  split at h
  case isFalse => cases h
  rename_i hd
  have go : ∀ v, HeadAt ctx call fr S p σ v → evHead ctx call fr S l (upd σ p.dst v) = some σ' →
    ∃ vs : List PV, vs.length = (p :: l).length ∧ lex (p :: l) vs σ (p :: l).length = σ' ∧ ∀ (i : Nat) (q : POp), (p :: l)[i]? = some q → HeadAt ctx call fr S q (lex (p :: l) vs σ i) (vs.getD i .poison) := by
   intro v hv h
   obtain ⟨vs, h1, h2, h3⟩ := head_trace l _ _ h
   refine ⟨v :: vs, by simp [h1], h2, fun i q hi => ?_⟩
   cases i with
   | zero => simp at hi; subst hi; exact hv
   | succ i => exact h3 i q (by simpa using hi)
  split at h
  ·cases h
  ·rename_i hw; exact go _ ⟨hd, .inr ⟨hw, rfl⟩⟩ h
  ·rename_i hw
   split at h
   ·cases h
   rename_i v S' e' hs
   split at h
   case isFalse => cases h
   rename_i hsame
   simp only [Bool.and_eq_true, Bool.not_eq_true'] at hsame
   have := sameS_eq _ _ hsame.1
   subst this
   rw [hsame.2] at hs
   exact go _ ⟨hd, .inl ⟨hw, hs⟩⟩ h
def Once (l : List POp) : Prop := ∀ (i j : Nat) (p q : POp) (t : Nat), l[i]? = some p → l[j]? = some q → p.dst = some t → q.dst = some t → i = j
theorem lex_none {t : Nat} : ∀ (l : List POp) (vs : List PV) (σ : Nat → PV) (k : Nat), (∀ (j : Nat) (q : POp), j < k → l[j]? = some q → q.dst ≠ some t) → lex l vs σ k t = σ t
 | [], vs, σ, k, h => by simp [lex]
 | p :: l, [], σ, k, h => by simp [lex]
 | p :: l, v :: vs, σ, 0, h => by simp [lex]
 | p :: l, v :: vs, σ, k + 1, h => by
  simp only [lex]
  rw [lex_none l vs _ k fun j q hj hq => h (j + 1) q (by omega) (by simpa using hq)]
  have h0 := h 0 p (by omega) rfl
  unfold upd
  cases hd : p.dst with
  | none => rfl
  | some d =>
   have : t ≠ d := by rintro rfl; exact h0 hd
   simp [this]
theorem lex_some {t : Nat} : ∀ (l : List POp) (vs : List PV) (σ : Nat → PV) (k : Nat), Once l → vs.length = l.length → ∀ (j : Nat) (q : POp), j < k → l[j]? = some q → q.dst = some t → lex l vs σ k t = vs.getD j .poison
 | [], vs, σ, k, ho, hl, j, q, hj, hq, hd => by simp at hq
 | p :: l, [], σ, k, ho, hl, j, q, hj, hq, hd => by simp at hl
 | p :: l, v :: vs, σ, 0, ho, hl, j, q, hj, hq, hd => by omega
 | p :: l, v :: vs, σ, k + 1, ho, hl, j, q, hj, hq, hd => by
  simp only [lex]
  have ho' : Once l := fun i j p q t hi hj hp hq => by
   have := ho (i + 1) (j + 1) p q t (by simpa using hi) (by simpa using hj) hp hq
   omega
  cases j with
  | zero =>
   simp at hq; subst hq
   rw [lex_none l vs _ k fun j' q' hj' hq' hd' => by have := ho 0 (j' + 1) p q' t rfl (by simpa using hq') hd hd'; omega]
   simp [upd, hd]
  | succ j =>
   rw [lex_some l vs _ k ho' (by simpa using hl) j q (by omega) (by simpa using hq) hd]
   simp
def mixF : List POp → List PV → (Nat → Bool) → Nat → (Nat → PV) → Nat → PV
 | p :: l, v :: vs, L, k, σ => mixF l vs L (k + 1) (if L k then upd σ p.dst v else σ)
 | _, _, _, _, σ => σ
theorem mix_none {t : Nat} : ∀ (l : List POp) (vs : List PV) (L : Nat → Bool) (k : Nat) (σ : Nat → PV), (∀ (j : Nat) (q : POp), L (k + j) = true → l[j]? = some q → q.dst ≠ some t) → mixF l vs L k σ t = σ t
 | [], vs, L, k, σ, h => by simp [mixF]
 | p :: l, [], L, k, σ, h => by simp [mixF]
 | p :: l, v :: vs, L, k, σ, h => by
  simp only [mixF]
  rw [mix_none l vs L (k + 1) _ fun j q hj hq => h (j + 1) q (by rw [← hj]; congr 1; omega) (by simpa using hq)]
  split
  ·rename_i hL
   have h0 := h 0 p hL rfl
   unfold upd
   cases hd : p.dst with
   | none => rfl
   | some d =>
    have : t ≠ d := by rintro rfl; exact h0 hd
    simp [this]
  ·rfl
theorem mix_some {t : Nat} : ∀ (l : List POp) (vs : List PV) (L : Nat → Bool) (k : Nat) (σ : Nat → PV), Once l → vs.length = l.length → ∀ (j : Nat) (q : POp), L (k + j) = true → l[j]? = some q → q.dst = some t → mixF l vs L k σ t = vs.getD j .poison
 | [], vs, L, k, σ, ho, hl, j, q, hj, hq, hd => by simp at hq
 | p :: l, [], L, k, σ, ho, hl, j, q, hj, hq, hd => by simp at hl
 | p :: l, v :: vs, L, k, σ, ho, hl, j, q, hj, hq, hd => by
  simp only [mixF]
  have ho' : Once l := fun i j p q t hi hj hp hq => by
   have := ho (i + 1) (j + 1) p q t (by simpa using hi) (by simpa using hj) hp hq
   omega
  cases j with
  | zero =>
   simp at hq; subst hq
   rw [mix_none l vs L (k + 1) _ fun j' q' hj' hq' hd' => by have := ho 0 (j' + 1) p q' t rfl (by simpa using hq') hd hd'; omega]
   simp at hj
   simp [upd, hd, hj]
  | succ j =>
   rw [mix_some l vs L (k + 1) _ ho' (by simpa using hl) j q (by rw [← hj]; congr 1; omega) (by simpa using hq) hd]
   simp
end
/-! Which come ahead of which -/
def aheadF (o : Oper) (acc : List Nat) : Nat :=
 o.after.toList.foldl (fun s e => if Region.binds .any e then s ||| 2 ^ e.on ||| acc.getD e.on 0 else s) 0
theorem aheadOf_get : ∀ (l : List Oper) (acc : List Nat), ∃ r, aheadOf l acc = acc ++ r ∧ r.length = l.length ∧ ∀ i o, l[i]? = some o → r[i]? = some (aheadF o ((aheadOf l acc).take (acc.length + i)))
 | [], acc => ⟨[], by simp [aheadOf], rfl, fun i o h => by simp at h⟩
 | o :: l, acc => by
  obtain ⟨r, h1, h2, h3⟩ := aheadOf_get l (acc ++ [aheadF o acc])
  have he : aheadOf (o :: l) acc = aheadOf l (acc ++ [aheadF o acc]) := rfl
  refine ⟨aheadF o acc :: r, by rw [he, h1]; simp, by simp [h2], fun i o' hi => ?_⟩
  rw [he]
  cases i with
  | zero =>
   simp at hi; subst hi
   rw [h1]; simp
  | succ i =>
   have := h3 i o' (by simpa using hi)
   simp only [List.length_append, List.length_cons, List.length_nil] at this
   simp only [List.getElem?_cons_succ]
   rw [this, show acc.length + (0 + 1) + i = acc.length + (i + 1) by omega]
theorem fold_bit (acc : List Nat) (j : Nat) : ∀ (es : List Edge) (s : Nat), (es.foldl (fun s e => if Region.binds .any e then s ||| 2 ^ e.on ||| acc.getD e.on 0 else s) s).testBit j = true →
  s.testBit j = true ∨ ∃ e ∈ es, Region.binds .any e = true ∧ (j = e.on ∨ (acc.getD e.on 0).testBit j = true)
 | [], s, h => .inl h
 | e :: es, s, h => by
  simp only [List.foldl_cons] at h
  rcases fold_bit acc j es _ h with h | ⟨e', h1, h2⟩
  ·split at h
   ·rename_i hb
    rw [Nat.testBit_or, Nat.testBit_or, Bool.or_eq_true, Bool.or_eq_true] at h
    rcases h with (h | h) | h
    ·exact .inl h
    ·rw [Nat.testBit_two_pow] at h
     exact .inr ⟨e, by simp, hb, .inl (by simpa using h : e.on = j).symm⟩
    ·exact .inr ⟨e, by simp, hb, .inr h⟩
   ·exact .inl h
  ·exact .inr ⟨e', by simp [h1], h2⟩
theorem ahead_bit {l : List Oper} {i j : Nat} {o : Oper} (hi : l[i]? = some o) (h : ((aheadOf l []).getD i 0).testBit j = true) (hlt : ∀ e ∈ o.after.toList, Region.binds .any e = true → e.on < i) :
  ∃ e ∈ o.after.toList, Region.binds .any e = true ∧ (j = e.on ∨ ((aheadOf l []).getD e.on 0).testBit j = true) := by
 obtain ⟨r, h1, h2, h3⟩ := aheadOf_get l []
 have hr := h3 i o hi
 simp only [List.nil_append] at h1
 rw [h1] at h hr
 rw [List.getD_eq_getElem?_getD, hr] at h
 simp only [Option.getD_some, List.length_nil, Nat.zero_add] at h
 unfold aheadF at h
 rcases fold_bit _ j _ _ h with h | ⟨e, e1, e2, e3⟩
 ·simp at h
 ·refine ⟨e, e1, e2, e3.imp id fun h => ?_⟩
  rw [h1]
  rw [List.getD_eq_getElem?_getD, List.getElem?_take] at h
  rw [if_pos (hlt e e1 e2)] at h
  rwa [List.getD_eq_getElem?_getD]
def cnt (L : Nat → Bool) : Nat → Nat
 | 0 => 0
 | k + 1 => cnt L k + if L k then 1 else 0
theorem cnt_le (L : Nat → Bool) : ∀ k, cnt L k ≤ k
 | 0 => Nat.le_refl _
 | k + 1 => by have := cnt_le L k; simp only [cnt]; split <;> omega
theorem cnt_all (L : Nat → Bool) : ∀ k, cnt L k = k → ∀ i, i < k → L i = true
 | 0, _, i, hi => by omega
 | k + 1, h, i, hi => by
  simp only [cnt] at h
  have := cnt_le L k
  split at h
  ·rename_i hk
   rcases Nat.lt_or_ge i k with hik | hik
   ·exact cnt_all L k (by omega) i hik
   ·rw [show i = k by omega]; exact hk
  ·omega
theorem cnt_full (L : Nat → Bool) : ∀ k, (∀ i, i < k → L i = true) → cnt L k = k
 | 0, _ => rfl
 | k + 1, h => by simp only [cnt, h k (by omega), if_true, cnt_full L k fun i hi => h i (by omega)]
theorem cnt_set {L L' : Nat → Bool} {i : Nat} (h0 : L i = false) (h1 : L' i = true) (h2 : ∀ j, j ≠ i → L' j = L j) : ∀ k, cnt L' k = cnt L k + if i < k then 1 else 0
 | 0 => rfl
 | k + 1 => by
  simp only [cnt, cnt_set h0 h1 h2 k]
  by_cases hik : i = k
  ·subst hik; simp [h0, h1]
  ·rw [h2 k (fun h => hik h.symm)]
   by_cases hlt : i < k
   ·have h3 : i < k + 1 := by omega
    simp only [hlt, h3, if_true]; omega
   ·have h3 : ¬ i < k + 1 := by omega
    simp only [hlt, h3, if_false]; omega
theorem popsOf_get {m : List Nat} {ops : Array Oper} : ∀ {l : List Oper} {ps : List POp}, popsOf m ops l = some ps → ps.length = l.length ∧ ∀ (i : Nat) (o : Oper), l[i]? = some o → ∃ p : POp, ps[i]? = some p ∧ popOf m ops o = some p
 | [], ps, h => by
  simp only [popsOf] at h; injection h with h; subst h
  exact ⟨rfl, fun i o hi => by simp at hi⟩
 | o :: l, ps, h => by
  simp only [popsOf] at h
  split at h
  case h_2 => cases h
  rename_i p r hp hr
  injection h with h; subst h
  obtain ⟨h1, h2⟩ := popsOf_get hr
  refine ⟨by simp [h1], fun i o' hi => ?_⟩
  cases i with
  | zero => simp at hi; subst hi; exact ⟨p, rfl, hp⟩
  | succ i => simpa using h2 i o' (by simpa using hi)
end Go.Pam
namespace Go.Pam
theorem map_indep {α : Type} {x : Option α} {f : α → PV} {S S' T : List SObj} {v : PV} {e : Bool} (h : (x.map fun a => (f a, S, false)) = some (v, S', e)) : (x.map fun a => (f a, T, false)) = some (v, T, false) := by
 cases x with
 | none => cases h
 | some a => simp at h ⊢; exact h.1
theorem push_ne {S : List SObj} {x : SObj} (h : S ++ [x] = S) : False := by
 have := congrArg List.length h
 simp at this
theorem indepOp_ok {ctx : Ctx} {call : Call'} {base : Nat} {σ : Nat → PV} {S S' : List SObj} {op : Op} {v : PV} {e' : Bool} (h : evStep ctx call base σ S op = some (v, S', e')) (hi : indepOp σ op = true) (hS : S' = S) (T : List SObj) :
  evStep ctx call base σ T op = some (v, T, false) := by
 cases op <;> simp only [evStep] at h ⊢ <;> try exact map_indep h
 case move => injection h with h; injection h with h1 h2; rw [h1]
 case assign => injection h with h; injection h with h1 h2; rw [h1]
 case pick =>
  split at h
  ·injection h with h; injection h with h1 h2; rw [h1]
  ·cases h
 case alloc => cases hi
 case box => cases hi
 case load t a =>
  simp only [indepOp] at hi
  split at hi
  case h_2 => cases hi
  rename_i cs off ha
  rw [ha] at h ⊢
  simp only [loadPV] at h ⊢
  exact map_indep h
 case store => cases hi
 case makeMap => cases hi
 case lookup => cases hi
 case mapUpdate => cases hi
 case insert => cases hi
 case mapEntry => cases hi
 case entryStore => cases hi
 case range => cases hi
 case next => cases hi
 case entry => cases hi
 case nilCheck =>
  split at h
  all_goals first | (injection h with h; injection h with h1 h2; rw [h1]) | cases h
 case convert s d x =>
  unfold convPV at h ⊢
  cases hs : ctx.ty s with
  | none => simp [hs] at h
  | some si =>
   cases hd : ctx.ty d with
   | none => simp [hs, hd] at h
   | some di =>
    simp only [hs, hd] at h ⊢
    split at h
    ·simp at h ⊢; exact h.1
    ·simp at h ⊢; exact h.1
    ·split at h
     ·split at h
      ·simp at h
       exfalso
       rw [hS] at h
       exact push_ne h.2.1
      ·cases h
     ·cases h
    ·split at h
     ·split at h
      ·rename_i x1 x2 x3 x4 x5 x6 x7 x8 x9 x10
       simp at h
       obtain ⟨a, h1, h2, _⟩ := h
       simp [h1, h2]
      ·cases h
     ·cases h
    ·split at h
     ·split at h
      ·simp at h ⊢; simp_all
      ·cases h
     ·cases h
    ·cases h
 case makeInterface t x =>
  split at h
  ·split at h
   ·cases h
   ·injection h with h; injection h with h1 h2; rw [h1]
  ·cases h
 case makeFunc => injection h with h; injection h with h1 h2; rw [h1]
 case makeSlice t l c =>
  unfold makeSlicePV at h ⊢
  split at h
  ·split at h
   ·split at h
    ·split at h
     ·rename_i x1 x2 x3 x4 x5 x6 x7 x8 x9 x10 x11 x12 x13 x14 hc
      simp only [Option.map_some] at h
      injection h with h; injection h with h1 h2
      rw [if_pos hc]
      simp [h1]
     ·cases h
    ·cases h
   ·cases h
  ·cases h
 case field t x i =>
  split at h
  ·split at h
   ·exact map_indep h
   ·cases h
  ·cases h
 case indexAddr t x i =>
  split at h
  ·exact map_indep h
  ·cases h
 case index t x i =>
  split at h
  ·exact map_indep h
  ·cases h
 case extract x i =>
  split at h
  ·exact map_indep h
  ·cases h
 case call c =>
  unfold callPV at h ⊢
  simp only [indepOp] at hi
  cases hc : c.callee with
  | value f => simp [hc] at hi
  | invoke r m => simp [hc] at hi
  | builtin b =>
   simp only [hc] at h hi ⊢
   cases b <;> simp only [Bool.false_eq_true] at hi <;> simp only at h ⊢ <;> try exact map_indep h
   split at h
   ·rename_i t x xs ht hx
    rw [hx] at hi
    split at hi
    ·cases hi
    rename_i hnm
    have e : ∀ T : List SObj, lenPV ctx t x T = lenPV ctx t x S := by
     intro T
     unfold lenPV
     cases ctx.ty t with
     | none => rfl
     | some ti =>
      simp only
      split <;> try rfl
      rename_i id _
      exact absurd rfl (hnm id _)
    rw [e T]
    exact map_indep h
   ·cases h
 all_goals cases h
theorem frzT_free : ∀ (xs : List Operand) (σ : Nat → PV) (S : List SObj), (∀ t, notRow (σ t) = true ∨ .tmp t ∉ xs) → frzT xs σ S = ((frzT xs σ []).1, S)
 | [], _, _, _ => rfl
 | .tmp t :: xs, σ, S, h => by
  have ht : notRow (σ t) = true := (h t).resolve_right (fun hn => hn List.mem_cons_self)
  have e : ∀ T, frzQ (σ t) T = (frzQ (σ t) []).map fun q => (q.1, T) := by
   intro T
   unfold frzQ
   cases hv : σ t <;> first | rfl | (rw [hv] at ht; cases ht)
  have hn : ∀ q, frzQ (σ t) [] = some q → notRow q.1 = true := by
   intro q
   unfold frzQ
   cases hv : σ t <;> intro hq <;> first | (rw [hv] at ht; cases ht; done) | (cases hq; done) | (injection hq with hq; subst hq; rfl)
  simp only [frzT]
  rw [e S]
  cases hq : frzQ (σ t) [] with
  | none =>
   exact frzT_free xs σ S fun s => (h s).imp id fun h hm => h (List.mem_cons_of_mem _ hm)
  | some q =>
   have h0 := e []
   rw [hq] at h0
   simp only [Option.map_some, Option.some.injEq] at h0
   simp only [Option.map_some]
   rw [h0]
   refine frzT_free xs _ S fun s => ?_
   simp only [upd]
   split
   ·exact .inl (hn q hq)
   ·rcases h s with h | h
    ·exact .inl h
    ·exact .inr fun hm => h (List.mem_cons_of_mem _ hm)
 | .const _ :: xs, σ, S, h => frzT_free xs σ S fun t => (h t).imp id fun h hm => h (List.mem_cons_of_mem _ hm)
 | .global _ :: xs, σ, S, h => frzT_free xs σ S fun t => (h t).imp id fun h hm => h (List.mem_cons_of_mem _ hm)
 | .func _ :: xs, σ, S, h => frzT_free xs σ S fun t => (h t).imp id fun h hm => h (List.mem_cons_of_mem _ hm)
theorem indep_ok {ctx : Ctx} {call : Call'} {base : Nat} {σ : Nat → PV} {S S' : List SObj} {p : POp} {v : PV} {e' : Bool} (h : evStepF ctx call base σ S p = some (v, S', e')) (hi : indep ctx σ p = true) (hS : S' = S) (T : List SObj) :
  evStepF ctx call base σ T p = some (v, T, false) := by
 simp only [indep, Bool.and_eq_true, List.all_eq_true] at hi
 obtain ⟨h12, h3⟩ := hi
 have hf : ∀ T, frzT (frzArgs ctx σ p.op) σ T = ((frzT (frzArgs ctx σ p.op) σ []).1, T) := fun T => frzT_free _ _ _ fun t => by
  by_cases hm : Operand.tmp t ∈ frzArgs ctx σ p.op
  ·exact .inl (h3 _ hm)
  ·exact .inr hm
 unfold evStepF at h ⊢
 rw [hf] at h ⊢
 split at h12
 ·rename_i c hc
  simp only [h12, if_true, birthF, hc, Option.map_map] at h ⊢
  cases hq : purePV call (frzT (frzArgs ctx σ p.op) σ []).1 c with
  | none => rw [hq] at h; cases h
  | some u =>
   rw [hq] at h
   simp only [Option.map_some, Function.comp, Option.some.injEq, Prod.mk.injEq] at h ⊢
   exact ⟨h.1, trivial⟩
 ·simp only [Bool.and_eq_true, Bool.not_eq_true'] at h12
  simp only [h12.1, Bool.false_eq_true, if_false] at h ⊢
  exact indepOp_ok h h12.2 hS T
section
variable {ctx : Ctx} {call : Call'} {fr : Fr}
def ChainAt (ctx : Ctx) (call : Call') (fr : Fr) (p : POp) (σ : Nat → PV) (v : PV) (T T' : List SObj × Bool) (all : List SObj → Prop) : Prop :=
 dstOk fr.ntmps p.dst = true ∧ ((wantedPV σ p.guard = some false ∧ v = .tup [] ∧ T' = T) ∨
  (wantedPV σ p.guard = some true ∧ chained p = true ∧ ∃ e, evStepF ctx call fr.base σ T.1 p = some (v, T'.1, e) ∧ T'.2 = (T.2 || e)) ∨
  (wantedPV σ p.guard = some true ∧ chained p = false ∧ T' = T ∧ ∀ S, all S → evStepF ctx call fr.base σ S p = some (v, S, false)))
theorem ChainAt.congr {p : POp} {σ σ' : Nat → PV} {v : PV} {T T' : List SObj × Bool} {all : List SObj → Prop} (h : ChainAt ctx call fr p σ v T T' all) (hs : ∀ t ∈ p.looks, σ t = σ' t) : ChainAt ctx call fr p σ' v T T' all := by
 have hw : wantedPV σ p.guard = wantedPV σ' p.guard := wantedPV_congr fun t w hg => hs t (mem_looks_guard hg)
 have he : ∀ S, evStepF ctx call fr.base σ S p = evStepF ctx call fr.base σ' S p := fun S => evStepF_congr _ fun x hx => opd_congr fun t ht => hs t (mem_looks_op (by rw [← ht]; exact hx))
 unfold ChainAt at *
 simp only [← hw, ← he]; exact h
theorem ChainAt.mono {p : POp} {σ : Nat → PV} {v : PV} {T T' : List SObj × Bool} {all all' : List SObj → Prop} (h : ChainAt ctx call fr p σ v T T' all) (hs : ∀ S, all' S → all S) : ChainAt ctx call fr p σ v T T' all' := by
 obtain ⟨h1, h2⟩ := h
 refine ⟨h1, ?_⟩
 rcases h2 with h2 | h2 | ⟨a, b, c, d⟩
 ·exact .inl h2
 ·exact .inr (.inl h2)
 ·exact .inr (.inr ⟨a, b, c, fun S hS => d S (hs S hS)⟩)
theorem chain_trace : ∀ (l : List POp) (hist : List (List SObj)) (pend : List (TypeId × PV × PV)) (σ : Nat → PV) (S : List SObj) (e : Bool) (r : (Nat → PV) × List SObj × Bool), evChain ctx call fr l hist pend σ S e = some r → PendOk ctx pend S →
  ∃ (vs : List PV) (Ts : Nat → List SObj × Bool), vs.length = l.length ∧ Ts 0 = (S, e) ∧ Ts l.length = r.2 ∧ lex l vs σ l.length = r.1 ∧ (∀ j, j ≤ l.length → PendOk ctx pend (Ts j).1) ∧
   ∀ (i : Nat) (p : POp), l[i]? = some p → ChainAt ctx call fr p (lex l vs σ i) (vs.getD i .poison) (Ts i) (Ts (i + 1)) (fun S' => S' ∈ hist ∨ ∃ j, j ≤ l.length ∧ (Ts j).1 = S')
 | [], hist, pend, σ, S, e, r, h, hp => by
  simp only [evChain] at h
  injection h with h; subst h
  exact ⟨[], fun _ => (S, e), rfl, rfl, rfl, rfl, fun j _ => hp, fun i p hi => by simp at hi⟩
 | p :: l, hist, pend, σ, S, e, r, h, hp => by
  simp only [evChain] at h
  split at h
  case isFalse => cases h
  rename_i hd
  have go : ∀ (v : PV) (hist' : List (List SObj)) (pend' : List (TypeId × PV × PV)) (S' : List SObj) (e' : Bool), (∀ q ∈ pend, q ∈ pend') → PendOk ctx pend' S' → (∀ T ∈ hist', T ∈ hist ∨ T = S) → (∀ T ∈ hist, T ∈ hist') → (S' ≠ S → S ∈ hist') →
    (∀ all : List SObj → Prop, (∀ T, all T → T ∈ hist ∨ T = S ∨ PendOk ctx pend' T) → ChainAt ctx call fr p σ v (S, e) (S', e') all) →
    evChain ctx call fr l hist' pend' (upd σ p.dst v) S' e' = some r →
    ∃ (vs : List PV) (Ts : Nat → List SObj × Bool), vs.length = (p :: l).length ∧ Ts 0 = (S, e) ∧ Ts (p :: l).length = r.2 ∧ lex (p :: l) vs σ (p :: l).length = r.1 ∧ (∀ j, j ≤ (p :: l).length → PendOk ctx pend (Ts j).1) ∧
     ∀ (i : Nat) (q : POp), (p :: l)[i]? = some q → ChainAt ctx call fr q (lex (p :: l) vs σ i) (vs.getD i .poison) (Ts i) (Ts (i + 1)) (fun S' => S' ∈ hist ∨ ∃ j, j ≤ (p :: l).length ∧ (Ts j).1 = S') := by
   intro v hist' pend' S' e' hpp hp' hh' hh hSS hat h
   obtain ⟨vs, Ts, h1, h2, h3, h4, h5, h6⟩ := chain_trace l hist' pend' _ S' e' r h hp'
   refine ⟨v :: vs, fun j => match j with | 0 => (S, e) | j + 1 => Ts j, by simp [h1], rfl, h3, h4, fun j hj => ?_, fun i q hi => ?_⟩
   ·cases j with
    | zero => exact hp
    | succ j =>
     simp only [List.length_cons] at hj
     exact fun q hq => h5 j (by omega) q (hpp q hq)
   ·cases i with
    | zero =>
     simp at hi; subst hi
     show ChainAt ctx call fr p σ v (S, e) (Ts 0) _
     rw [h2]
     refine hat _ fun T hT => ?_
     rcases hT with hT | ⟨j, hj, rfl⟩
     ·exact .inl hT
     ·cases j with
      | zero => exact .inr (.inl rfl)
      | succ j =>
       simp only [List.length_cons] at hj
       exact .inr (.inr (h5 j (by omega)))
    | succ i =>
     have h7 := h6 i q (by simpa using hi)
     refine h7.mono fun T hT => ?_
     rcases hT with hT | ⟨j, hj, rfl⟩
     ·exact .inl (hh T hT)
     ·cases j with
      | zero =>
       by_cases hs : S' = S
       ·exact .inr ⟨0, by omega, by rw [h2]; exact hs⟩
       ·exact .inl (hSS hs)
      | succ j =>
       simp only [List.length_cons] at hj
       exact .inr ⟨j, by omega, rfl⟩
  split at h
  ·cases h
  ·rename_i hw
   exact go (.tup []) hist pend S e (fun _ h => h) hp (fun T h => .inl h) (fun T h => h) (fun h => absurd rfl h) (fun all _ => ⟨hd, .inl ⟨hw, rfl, rfl⟩⟩) h
  ·rename_i hw
   split at h
   ·cases h
   rename_i v S' e' hs
   split at h
   ·rename_i hch
    split at h
    case isFalse => cases h
    rename_i hpp
    refine go v (S :: hist) pend S' (e || e') (fun _ h => h) hpp (fun T hT => ?_) (fun T hT => List.mem_cons_of_mem _ hT) (fun _ => List.mem_cons_self) (fun all _ => ⟨hd, .inr (.inl ⟨hw, hch, e', hs, rfl⟩)⟩) h
    rcases List.mem_cons.1 hT with rfl | hT
    ·exact .inr rfl
    ·exact .inl hT
   ·rename_i hch
    simp only [Bool.not_eq_true] at hch
    split at h
    case isFalse => cases h
    rename_i hsame
    simp only [Bool.and_eq_true, Bool.not_eq_true'] at hsame
    have hS := sameS_eq _ _ hsame.1
    split at h
    ·rename_i hin
     exact go v hist pend S e (fun _ h => h) hp (fun T h => .inl h) (fun T h => h) (fun h => absurd rfl h) (fun all _ => ⟨hd, .inr (.inr ⟨hw, hch, rfl, fun T _ => indep_ok hs hin hS T⟩)⟩) h
    ·rename_i hin
     split at h
     case h_2 => cases h
     rename_i t a hlo
     split at h
     case isFalse => cases h
     rename_i hall
     have hlv : ∃ x, p.op = .load t x ∧ opd σ x = a := by
      revert hlo
      generalize p.op = o
      intro hlo
      cases o <;> simp only [loadOf, reduceCtorEq] at hlo
      injection hlo with hlo; injection hlo with h1 h2
      subst h1
      exact ⟨_, rfl, h2⟩
     obtain ⟨x, hop, hx⟩ := hlv
     have hwr : p.wr = false := by
      unfold chained at hch
      rw [hop] at hch
      cases hw : p.wr with
      | false => rfl
      | true => rw [hw] at hch; cases hch
     have hl : ∀ T, loadPV ctx t a T = some v → evStepF ctx call fr.base σ T p = some (v, T, false) := by
      intro T hT
      unfold evStepF
      rw [hop, hwr]
      simp only [frzArgs, frzT, Bool.false_eq_true, if_false, evStep, hx, hT, Option.map_some]
     have hv : loadPV ctx t a S = some v := by
      unfold evStepF at hs
      rw [hop, hwr] at hs
      simp only [frzArgs, frzT, Bool.false_eq_true, if_false, evStep, hx] at hs
      cases hq : loadPV ctx t a S with
      | none => rw [hq] at hs; cases hs
      | some y => rw [hq] at hs; simp at hs; rw [hs.1]
     refine go v hist ((t, a, v) :: pend) S e (fun q hq => List.mem_cons_of_mem _ hq) ?_ (fun T h => .inl h) (fun T h => h) (fun h => absurd rfl h) (fun all hA => ⟨hd, .inr (.inr ⟨hw, hch, rfl, fun T hT => ?_⟩)⟩) h
     ·intro q hq
      rcases List.mem_cons.1 hq with rfl | hq
      ·exact hv
      ·exact hp q hq
     ·rcases hA T hT with h1 | rfl | h1
      ·exact hl T (hall T h1)
      ·exact hl T hv
      ·exact hl T (h1 _ List.mem_cons_self)
end
end Go.Pam
namespace Go.Pam
open Go.RowKit
structure Rel (ctx : Ctx) (fr : Fr) (bd : Nat → Nat) (s : St) (g : G) (w : World) (a : Act) : Prop where
 slots : Slots g w s.2.1.length s.1 a.tmps
 size : a.tmps.size = fr.ntmps
 defers : a.defers = []
 r : R s.2.1 w g (if s.2.2 then 0 else fr.base) bd
 gl : Gl ctx w g
def Ex.to : Ex → Exit
 | .normal => .normal
 | .exit id => .exit id
 | .ret => .ret
section
variable {P : Program} {ctx : Ctx} {call : Call'} {fr : Fr} {bd : Nat → Nat} {m : List Nat}
theorem popOf_spec {ops : Array Oper} {o : Oper} {p : POp} (h : popOf m ops o = some p) : p.dst = o.dst ∧ p.op = o.op ∧
  ((o.guard = none ∧ p.guard = none) ∨ ∃ j want t, o.guard = some (j, want) ∧ (ops[j]?).bind (·.dst) = some t ∧ p.guard = some (t, want)) := by
 unfold popOf at h
 split at h
 ·rename_i hg
  injection h with h; subst h
  exact ⟨rfl, rfl, .inl ⟨hg, rfl⟩⟩
 ·rename_i j want hg
  split at h
  ·rename_i t ht
   injection h with h; subst h
   exact ⟨rfl, rfl, .inr ⟨j, want, t, hg, ht, rfl⟩⟩
  ·cases h
theorem wantedPV_sound {g : G} {w : World} {n : Nat} {σ : Nat → PV} {tmps : Array Value} (hs : Slots g w n σ tmps) {ops : Array Oper} {o : Oper} {p : POp} {b : Bool} (hp : popOf m ops o = some p) (h : wantedPV σ p.guard = some b) :
  Region.wanted o (yielded ops tmps) = b := by
 obtain ⟨_, _, hg⟩ := popOf_spec hp
 unfold Region.wanted
 rcases hg with ⟨h1, h2⟩ | ⟨j, want, t, h1, h2, h3⟩
 ·rw [h2] at h
  simp only [wantedPV] at h
  injection h with h; subst h
  rw [h1]
 ·rw [h3] at h
  rw [h1]
  have hv := hs t
  simp only [yielded, h2, Option.bind_some]
  simp only [wantedPV] at h
  split at h
  ·rename_i c hc
   injection h with h; subst h
   rw [hc] at hv
   have hv := hv.inv_bool
   rw [Array.getD_eq_getD_getElem?] at hv
   cases hx : tmps[t]? with
   | none => rw [hx] at hv; simp [undef] at hv
   | some y => rw [hx] at hv; simp at hv; subst hv; simp
  ·rename_i hc
   injection h with h; subst h
   rw [hc] at hv
   obtain ⟨cs, he, hl, _⟩ := hv.inv_tup
   rw [Array.getD_eq_getD_getElem?] at he
   cases hx : tmps[t]? with
   | none => simp
   | some y => rw [hx] at he; simp at he; subst he; simp
  ·cases h
theorem step_rel {s : St} {g : G} {w : World} {a : Act} (hr : Rel ctx fr bd s g w a) {d : Option Nat} (hd : ∀ i, d = some i → i < fr.ntmps) {x : PV} {S' : List SObj} {e' : Bool} {v : Value} {w' : World}
  (hg : Good (if s.2.2 then 0 else fr.base) bd s.2.1 g w x S' e' v w') : ∃ g', Rel ctx fr bd (upd s.1 d x, S', s.2.2 || e') g' w' (a.put d v) ∧ Evo s.2.1.length g w g' w' ∧ s.2.1.length ≤ S'.length := by
 obtain ⟨g', h1, h2, h3, h4⟩ := hg
 refine ⟨g', ⟨?_, by rw [size_put]; exact hr.size, by cases d <;> exact hr.defers, ?_, hr.gl.evo h3⟩, h3, h4⟩
 ·exact ((hr.slots.evo h3).mono h4).put (fun i hi => by rw [hr.size]; exact hd i hi) h1
 ·have : (if e' = true then 0 else if s.2.2 = true then 0 else fr.base) = (if (s.2.2 || e') = true then 0 else fr.base) := by
   cases e' <;> cases s.2.2 <;> rfl
  rw [← this]; exact h2
theorem op_rel (hc : CtxTy P ctx) (hcall : CallOk P ctx call) {ops : Array Oper} {o : Oper} {p : POp} (hp : popOf m ops o = some p) {s : St} {g : G} {w : World} {a : Act} (hr : Rel ctx fr bd s g w a)
  (hd : dstOk fr.ntmps p.dst = true) {b : Bool} (hw : wantedPV s.1 p.guard = some b) {x : PV} {S' : List SObj} {e' : Bool}
  (hst : if b then evStepF ctx call fr.base s.1 s.2.1 p = some (x, S', e') else x = .tup [] ∧ S' = s.2.1 ∧ e' = false) (K : Act → World → Prop) (Q : Exit → Act → World → Prop)
  (hk : ∀ g' w' a', Rel ctx fr bd (upd s.1 p.dst x, S', s.2.2 || e') g' w' a' → Evo s.2.1.length g w g' w' → s.2.1.length ≤ S'.length → K a' w') :
  if Region.wanted o (yielded ops a.tmps) then o.wp P a w K Q ∨ (o.asks P a w ∧ LetsOut Q) else K (a.put o.dst undef) w := by
 obtain ⟨p1, p2, _⟩ := popOf_spec hp
 have hw' := wantedPV_sound hr.slots hp hw
 have hd' : ∀ i, o.dst = some i → i < fr.ntmps := by
  intro i hi
  rw [p1, hi] at hd
  simpa [dstOk] using hd
 cases b with
 | false =>
  rw [if_neg (by rw [hw']; simp)]
  simp only [Bool.false_eq_true, if_false] at hst
  obtain ⟨rfl, rfl, rfl⟩ := hst
  obtain ⟨g1, r1, e1, l1⟩ := step_rel (fr := fr) hr hd' (Good.same (base := if s.2.2 then 0 else fr.base) hr.r (V.tup (g := g) (w := w) (n := s.2.1.length) [] #[] rfl (fun i c hi => by simp at hi)))
  rw [← p1] at r1
  rw [← p1]
  exact hk g1 w _ r1 e1 l1
 | true =>
  rw [if_pos hw']
  simp only [if_true] at hst
  refine .inl ?_
  refine evStepF_sound hc hcall hr.r hr.gl hr.slots (by cases s.2.2 <;> simp) p2 hst _ _ ?_
  intro v' w' hg
  obtain ⟨g1, r1, ev1, l1⟩ := step_rel (fr := fr) hr hd' hg
  rw [← p1] at r1
  rw [← p1]
  exact hk g1 w' _ r1 ev1 l1
theorem evOps_sound (hc : CtxTy P ctx) (hcall : CallOk P ctx call) {ops : Array Oper} {Q : Exit → Act → World → Prop} : ∀ (l : List Oper) (ps : List POp) (s s' : St) (g : G) (w : World) (a : Act), popsOf m ops l = some ps → evOps ctx call fr ps s.1 s.2.1 s.2.2 = some s' → Rel ctx fr bd s g w a →
  (∀ g' w' a', Rel ctx fr bd s' g' w' a' → Evo s.2.1.length g w g' w' → s.2.1.length ≤ s'.2.1.length → Q .normal a' w') → wpList P ops Q l a w
 | [], ps, s, s', g, w, a, hp, h, hr, hq => by
  simp only [popsOf] at hp
  injection hp with hp; subst hp
  simp only [evOps] at h
  injection h with h; subst h
  exact hq g w a hr (Evo.refl _ _ _) (Nat.le_refl _)
 | o :: l, ps, s, s', g, w, a, hp, h, hr, hq => by
  simp only [popsOf] at hp
  split at hp
  case h_2 => cases hp
  rename_i p ps' hp1 hp2
  injection hp with hp; subst hp
  simp only [evOps] at h
  split at h
  case isFalse => cases h
  rename_i hd
  unfold wpList
  split at h
  ·cases h
  ·rename_i hw
   refine op_rel hc hcall hp1 hr hd hw (x := .tup []) (S' := s.2.1) (e' := false) (by simp) _ _ ?_
   intro g1 w1 a1 r1 e1 l1
   rw [Bool.or_false] at r1
   exact evOps_sound hc hcall l ps' (upd s.1 p.dst (.tup []), s.2.1, s.2.2) s' g1 w1 a1 hp2 h r1 (fun g' w' a' hr' e' l' => hq g' w' a' hr' (e1.trans e') l')
  ·rename_i hw
   split at h
   ·cases h
   rename_i v S1 e1 hst
   refine op_rel hc hcall hp1 hr hd hw (x := v) (S' := S1) (e' := e1) (by simpa using hst) _ _ ?_
   intro g1 w1 a1 r1 ev1 l1
   exact evOps_sound hc hcall l ps' (upd s.1 p.dst v, S1, s.2.2 || e1) s' g1 w1 a1 hp2 h r1
    (fun g' w'' a' hr' e' l' => hq g' w'' a' hr' (ev1.trans (e'.mono l1)) (Nat.le_trans l1 l'))
theorem rounds_sound {body : St → Option (Ex × St)} {c : Code} {Q : Exit → Act → World → Prop}
  (hb : ∀ (s s' : St) (x : Ex) (g : G) (w : World) (a : Act) (Q : Exit → Act → World → Prop), body s = some (x, s') → Rel ctx fr bd s g w a →
   (∀ g' w' a', Rel ctx fr bd s' g' w' a' → Evo s.2.1.length g w g' w' → s.2.1.length ≤ s'.2.1.length → Q x.to a' w') → c.wp P Q a w) :
  ∀ (k : Nat) (s s' : St) (x : Ex) (g : G) (w : World) (a : Act), rounds body k s = some (x, s') → Rel ctx fr bd s g w a →
   (∀ g' w' a', Rel ctx fr bd s' g' w' a' → Evo s.2.1.length g w g' w' → s.2.1.length ≤ s'.2.1.length → Q x.to a' w') → Code.rounds P c Q k a w
 | 0, _, _, _, _, _, _, h, _, _ => by simp [rounds] at h
 | k + 1, s, s', x, g, w, a, h, hr, hq => by
  simp only [rounds] at h
  rw [rounds_succ]
  split at h
  ·cases h
  ·rename_i s1 h1
   refine hb s s1 .normal g w a _ h1 hr ?_
   intro g1 w1 a1 r1 e1 l1
   show Code.rounds P c Q k a1 w1
   exact rounds_sound hb k s1 s' x g1 w1 a1 h r1 (fun g' w' a' r' e' l' => hq g' w' a' r' (e1.trans (e'.mono l1)) (Nat.le_trans l1 l'))
  ·rename_i y s1 hne h1
   injection h with h
   injection h with h2 h3
   subst h2; subst h3
   refine hb s s1 y g w a _ h1 hr ?_
   intro g1 w1 a1 r1 e1 l1
   cases y with
   | normal => exact absurd rfl (hne)
   | exit id => exact hq g1 w1 a1 r1 e1 l1
   | ret => exact hq g1 w1 a1 r1 e1 l1
theorem ready_unlisted {ops : Array Oper} {listed : Array Bool} (hsz : listed.size = ops.size) (hlt : ∀ (i : Nat) (o : Oper), ops[i]? = some o → ∀ e ∈ o.after, Region.binds .any e = true → e.on < i) :
  ∀ i, i < ops.size → listed.getD i false = false → Region.ready .any ops listed ≠ [] := by
 intro i
 induction i using Nat.strongRecOn with
 | _ i ih =>
  intro hi hu
  by_cases hall : ∀ j, j < i → listed.getD j false = true
  ·have hmem : i ∈ Region.ready .any ops listed := by
    rw [mem_ready]
    refine ⟨?_, ops[i], by simp [hi], fun e he hb => hall _ (hlt i ops[i] (by simp [hi]) e he hb)⟩
    rw [Array.getD_eq_getD_getElem?] at hu ⊢
    rw [Array.getElem?_eq_getElem (by omega)] at hu ⊢
    exact hu
   intro h; rw [h] at hmem; cases hmem
  ·have : ∃ j, j < i ∧ listed.getD j false = false := by
    apply Classical.byContradiction
    intro hno
    apply hall
    intro j hj
    cases hc : listed.getD j false with
    | true => rfl
    | false => exact absurd ⟨j, hj, hc⟩ hno
   obtain ⟨j, hj, hju⟩ := this
   exact ih j hj (by omega) hju
theorem ready_none {ops : Array Oper} {listed : Array Bool} (hsz : listed.size = ops.size) (hall : ∀ i, i < ops.size → listed.getD i false = true) : Region.ready .any ops listed = [] := by
 apply List.eq_nil_iff_forall_not_mem.2
 intro i hi
 rw [mem_ready] at hi
 obtain ⟨h1, o, h2, _⟩ := hi
 have hlt : i < ops.size := (Array.getElem?_eq_some_iff.1 h2).1
 have := hall i hlt
 rw [Array.getD_eq_getD_getElem?] at this h1
 rw [Array.getElem?_eq_getElem (by omega)] at this h1
 simp at this h1
 rw [h1] at this; cases this
theorem getD_set {listed : Array Bool} {i : Nat} (hi : i < listed.size) (j : Nat) : (listed.setIfInBounds i true).getD j false = if j = i then true else listed.getD j false := by
 rw [Array.getD_eq_getD_getElem?, Array.getD_eq_getD_getElem?, Array.getElem?_setIfInBounds]
 by_cases h : i = j
 ·subst h; simp [hi]
 ·rw [if_neg h, if_neg (fun h' => h h'.symm)]
theorem wpOp_of_rel (hc : CtxTy P ctx) (hcall : CallOk P ctx call) {ops : Array Oper} {i : Nat} {o : Oper} {p : POp} (hi : ops[i]? = some o) (hp : popOf m ops o = some p) {s : St} {g : G} {w : World} {a : Act} (hr : Rel ctx fr bd s g w a)
  (hd : dstOk fr.ntmps p.dst = true) {b : Bool} (hw : wantedPV s.1 p.guard = some b) {x : PV} {S' : List SObj} {e' : Bool}
  (hst : if b then evStepF ctx call fr.base s.1 s.2.1 p = some (x, S', e') else x = .tup [] ∧ S' = s.2.1 ∧ e' = false) (K : Act → World → Prop) (Q : Exit → Act → World → Prop)
  (hk : ∀ g' w' a', Rel ctx fr bd (upd s.1 p.dst x, S', s.2.2 || e') g' w' a' → Evo s.2.1.length g w g' w' → s.2.1.length ≤ S'.length → K a' w') : wpOp P ops Q i K a w := by
 unfold wpOp
 rw [hi]
 exact op_rel hc hcall hp hr hd hw hst K Q hk
theorem any_tail (hc : CtxTy P ctx) (hcall : CallOk P ctx call) {ops : Array Oper} {ps : List POp} {n : Nat} (hps : popsOf m ops ops.toList = some ps)
  (hlt : ∀ (i : Nat) (o : Oper), ops[i]? = some o → ∀ e ∈ o.after, Region.binds .any e = true → e.on < i)
  (hseq : ∀ (listed : Array Bool) (i : Nat), n ≤ i → i ∈ Region.ready .any ops listed → (∀ j, listed.getD j false = true → ∀ k, ((aheadOf ops.toList []).getD j 0).testBit k = true → listed.getD k false = true) → ∀ j, j < i → listed.getD j false = true)
  (hclo : ∀ (listed : Array Bool) (i : Nat), i ∈ Region.ready .any ops listed → (∀ j, listed.getD j false = true → ∀ k, ((aheadOf ops.toList []).getD j 0).testBit k = true → listed.getD k false = true) → ∀ k, ((aheadOf ops.toList []).getD i 0).testBit k = true → listed.getD k false = true)
  {s' : St} {Q : Exit → Act → World → Prop} {g0 : G} {w0 : World} {N : Nat} (hq : ∀ g' w' a', Rel ctx fr bd s' g' w' a' → Evo N g0 w0 g' w' → N ≤ s'.2.1.length → Q .normal a' w') :
  ∀ (fuel : Nat) (listed : Array Bool) (m : Nat) (s1 : St) (g : G) (w : World) (a : Act), listed.size = ops.size → cnt (fun i => listed.getD i false) ops.size + fuel = ops.size →
   (∀ j, listed.getD j false = true → ∀ k, ((aheadOf ops.toList []).getD j 0).testBit k = true → listed.getD k false = true) →
   n ≤ m → (∀ i, i < ops.size → (listed.getD i false = true ↔ i < m)) → Rel ctx fr bd s1 g w a → evOps ctx call fr (ps.drop m) s1.1 s1.2.1 s1.2.2 = some s' → Evo N g0 w0 g w → N ≤ s1.2.1.length →
   wpAny P .any ops Q fuel listed a w
 | fuel, listed, m, s1, g, w, a, hsz, hcnt, hclosed, hnm, hl, hr, hev, he, hle => by
  obtain ⟨plen, pget⟩ := popsOf_get hps
  have hsize : ops.toList.length = ops.size := by simp
  rcases Nat.lt_or_ge m ops.size with hm | hm
  ·-- one is left
   have hun : listed.getD m false = false := by
    cases hc : listed.getD m false with
    | false => rfl
    | true => exact absurd ((hl m hm).1 hc) (by omega)
   cases fuel with
   | zero => have := cnt_all _ _ (by omega) m hm; rw [hun] at this; cases this
   | succ fuel =>
    refine ⟨fun h => absurd h (ready_unlisted hsz hlt m hm hun), fun i hi => ?_⟩
    have him : i = m := by
     obtain ⟨h1, o, h2, _⟩ := mem_ready.1 hi
     have hilt : i < ops.size := (Array.getElem?_eq_some_iff.1 h2).1
     have hge : m ≤ i := by
      rcases Nat.lt_or_ge i m with h | h
      ·have := (hl i hilt).2 h
       rw [Array.getD_eq_getD_getElem?] at this h1
       rw [Array.getElem?_eq_getElem (by omega)] at this h1
       simp at this h1
       rw [h1] at this; cases this
      ·exact h
     rcases Nat.lt_or_ge m i with h | h
     ·have := hseq listed i (by omega) hi hclosed m h
      rw [hun] at this; cases this
     ·omega
    subst him
    obtain ⟨p, hp1, hp2⟩ := pget i ops[i] (by simp [hm])
    have hdrop : ps.drop i = p :: ps.drop (i + 1) := by
     have hil : i < ps.length := by omega
     rw [List.drop_eq_getElem_cons hil]
     rw [List.getElem?_eq_getElem hil] at hp1
     injection hp1 with hp1; rw [hp1]
    rw [hdrop] at hev
    simp only [evOps] at hev
    split at hev
    case isFalse => cases hev
    rename_i hd
    have next : ∀ (x : PV) (S' : List SObj) (e' : Bool), evOps ctx call fr (ps.drop (i + 1)) (upd s1.1 p.dst x) S' (s1.2.2 || e') = some s' →
      ∀ g' w' a', Rel ctx fr bd (upd s1.1 p.dst x, S', s1.2.2 || e') g' w' a' → Evo s1.2.1.length g w g' w' → s1.2.1.length ≤ S'.length → wpAny P .any ops Q fuel (listed.setIfInBounds i true) a' w' := by
     intro x S' e' hev' g' w' a' hr' he' hle'
     refine any_tail hc hcall hps hlt hseq hclo hq fuel _ (i + 1) _ g' w' a' (by simpa using hsz) ?_ ?_ (by omega) (fun j hj => ?_) hr' hev' (he.trans (he'.mono hle)) (by simp only; omega)
     ·have := cnt_set (L := fun i => listed.getD i false) (L' := fun j => (listed.setIfInBounds i true).getD j false) (i := i) hun (by rw [getD_set (by omega)]; simp) (fun j hj => by rw [getD_set (by omega), if_neg hj]) ops.size
      rw [this, if_pos hm]; omega
     ·intro j hj k hk
      rw [getD_set (by omega)] at hj ⊢
      by_cases hki : k = i
      ·rw [if_pos hki]
      ·rw [if_neg hki]
       by_cases hji : j = i
       ·subst hji; exact hclo listed j hi hclosed k hk
       ·rw [if_neg hji] at hj; exact hclosed j hj k hk
     ·rw [getD_set (by omega)]
      by_cases hji : j = i
      ·simp [hji]
      ·rw [if_neg hji, hl j hj]; omega
    split at hev
    ·cases hev
    ·rename_i hw
     exact wpOp_of_rel hc hcall (by simp [hm]) hp2 hr hd hw (x := .tup []) (S' := s1.2.1) (e' := false) (by simp) _ _ (next _ _ _ (by rw [Bool.or_false]; exact hev))
    ·rename_i hw
     split at hev
     ·cases hev
     rename_i v S1 e1 hst
     exact wpOp_of_rel hc hcall (by simp [hm]) hp2 hr hd hw (x := v) (S' := S1) (e' := e1) (by simpa using hst) _ _ (next _ _ _ hev)
  ·-- none is left
   have hall : ∀ i, i < ops.size → listed.getD i false = true := fun i hi => (hl i hi).2 (by omega)
   have hfuel : fuel = 0 := by rw [cnt_full _ _ hall] at hcnt; omega
   subst hfuel
   refine ⟨ready_none hsz hall, ?_⟩
   rw [List.drop_eq_nil_of_le (by omega)] at hev
   simp only [evOps] at hev
   injection hev with hev; subst hev
   exact hq g w a hr he hle
theorem any_head (hc : CtxTy P ctx) (hcall : CallOk P ctx call) {ops : Array Oper} {ps : List POp} {n : Nat} (hps : popsOf m ops ops.toList = some ps) (hn : n ≤ ops.size)
  (hlt : ∀ (i : Nat) (o : Oper), ops[i]? = some o → ∀ e ∈ o.after, Region.binds .any e = true → e.on < i)
  (hseq : ∀ (listed : Array Bool) (i : Nat), n ≤ i → i ∈ Region.ready .any ops listed → (∀ j, listed.getD j false = true → ∀ k, ((aheadOf ops.toList []).getD j 0).testBit k = true → listed.getD k false = true) → ∀ j, j < i → listed.getD j false = true)
  (hclo : ∀ (listed : Array Bool) (i : Nat), i ∈ Region.ready .any ops listed → (∀ j, listed.getD j false = true → ∀ k, ((aheadOf ops.toList []).getD j 0).testBit k = true → listed.getD k false = true) → ∀ k, ((aheadOf ops.toList []).getD i 0).testBit k = true → listed.getD k false = true)
  (hbl : ∀ i k, i < ops.size → ((aheadOf ops.toList []).getD i 0).testBit k = true → k < i)
  (hone : Once (ps.take n)) (hlook : ∀ (i j : Nat) (p q : POp) (t : Nat), i < n → j < n → i ≠ j → ps[i]? = some p → ps[j]? = some q → q.dst = some t → t ∈ p.looks → ((aheadOf ops.toList []).getD i 0).testBit j = true)
  {s s' : St} {vs : List PV} (hvl : vs.length = (ps.take n).length) (hvs : ∀ (i : Nat) (p : POp), (ps.take n)[i]? = some p → HeadAt ctx call fr s.2.1 p (lex (ps.take n) vs s.1 i) (vs.getD i .poison))
  (h2 : evOps ctx call fr (ps.drop n) (lex (ps.take n) vs s.1 (ps.take n).length) s.2.1 s.2.2 = some s')
  {Q : Exit → Act → World → Prop} {g0 : G} {w0 : World} (hq : ∀ g' w' a', Rel ctx fr bd s' g' w' a' → Evo s.2.1.length g0 w0 g' w' → s.2.1.length ≤ s'.2.1.length → Q .normal a' w') :
  ∀ (fuel : Nat) (listed : Array Bool) (g : G) (w : World) (a : Act), listed.size = ops.size → cnt (fun i => listed.getD i false) ops.size + fuel = ops.size →
   (∀ j, listed.getD j false = true → ∀ k, ((aheadOf ops.toList []).getD j 0).testBit k = true → listed.getD k false = true) →
   (∀ i, listed.getD i false = true → i < n) → Rel ctx fr bd (mixF (ps.take n) vs (fun i => listed.getD i false) 0 s.1, s.2.1, s.2.2) g w a → Evo s.2.1.length g0 w0 g w →
   wpAny P .any ops Q fuel listed a w
 | fuel, listed, g, w, a, hsz, hcnt, hclosed, hl, hr, he => by
  obtain ⟨plen, pget⟩ := popsOf_get hps
  have hsize : ops.toList.length = ops.size := by simp
  have htl : (ps.take n).length = n := by simp; omega
  have tget : ∀ (i : Nat) (p : POp), (ps.take n)[i]? = some p ↔ i < n ∧ ps[i]? = some p := by
   intro i p
   rw [List.getElem?_take]
   by_cases h : i < n
   ·simp [h]
   ·simp [h]
  by_cases hall : ∀ i, i < n → listed.getD i false = true
  ·-- all of them have come
   have hmix : mixF (ps.take n) vs (fun i => listed.getD i false) 0 s.1 = lex (ps.take n) vs s.1 (ps.take n).length := by
    funext t
    by_cases ht : ∃ (j : Nat) (q : POp), (ps.take n)[j]? = some q ∧ q.dst = some t
    ·obtain ⟨j, q, hj, hd⟩ := ht
     have hjn := ((tget j q).1 hj).1
     rw [mix_some _ _ _ _ _ hone hvl j q (by simpa using hall j hjn) hj hd, lex_some _ _ _ _ hone hvl j q (by omega) hj hd]
    ·rw [mix_none _ _ _ _ _ (fun j q _ hj hd => ht ⟨j, q, hj, hd⟩), lex_none _ _ _ _ (fun j q _ hj hd => ht ⟨j, q, hj, hd⟩)]
   rw [hmix] at hr
   exact any_tail hc hcall hps hlt hseq hclo hq fuel listed n _ g w a hsz hcnt hclosed (Nat.le_refl _) (fun i hi => ⟨hl i, hall i⟩) hr h2 he (Nat.le_refl _)
  ·have : ∃ m, m < n ∧ listed.getD m false = false := by
    apply Classical.byContradiction
    intro hno
    apply hall
    intro j hj
    cases hc : listed.getD j false with
    | true => rfl
    | false => exact absurd ⟨j, hj, hc⟩ hno
   obtain ⟨m, hmn, hun⟩ := this
   cases fuel with
   | zero => have := cnt_all _ _ (by omega) m (by omega); rw [hun] at this; cases this
   | succ fuel =>
    refine ⟨fun h => absurd h (ready_unlisted hsz hlt m (by omega) hun), fun i hi => ?_⟩
    obtain ⟨hiu, o, hio, _⟩ := mem_ready.1 hi
    have hilt : i < ops.size := (Array.getElem?_eq_some_iff.1 hio).1
    have hiu : listed.getD i false = false := by
     rw [Array.getD_eq_getD_getElem?] at hiu ⊢
     rw [Array.getElem?_eq_getElem (by omega)] at hiu ⊢
     exact hiu
    have hin : i < n := by
     rcases Nat.lt_or_ge i n with h | h
     ·exact h
     ·have := hseq listed i h hi hclosed m (by omega)
      rw [hun] at this; cases this
    obtain ⟨p, hp1, hp2⟩ := pget i o (by simpa using hio)
    have hpt : (ps.take n)[i]? = some p := (tget i p).2 ⟨hin, hp1⟩
    have hat := hvs i p hpt
    have hat' : HeadAt ctx call fr s.2.1 p (mixF (ps.take n) vs (fun i => listed.getD i false) 0 s.1) (vs.getD i .poison) := by
     refine hat.congr fun t ht => ?_
     by_cases hw : ∃ (j : Nat) (q : POp), (ps.take n)[j]? = some q ∧ q.dst = some t ∧ j ≠ i
     ·obtain ⟨j, q, hj, hd, hji⟩ := hw
      have hj' := (tget j q).1 hj
      have hb := hlook i j p q t hin hj'.1 (fun h => hji h.symm) hp1 hj'.2 hd ht
      have hjL := hclo listed i hi hclosed j hb
      rw [mix_some _ _ _ _ _ hone hvl j q (by simpa using hjL) hj hd, lex_some _ _ _ _ hone hvl j q (hbl i j hilt hb) hj hd]
     ·rw [mix_none _ _ _ _ _ (fun j q hj hq hd => by
       by_cases hji : j = i
       ·subst hji; simp at hj; rw [Array.getD_eq_getD_getElem?] at hiu; rw [hiu] at hj; cases hj
       ·exact hw ⟨j, q, hq, hd, hji⟩), lex_none _ _ _ _ (fun j q hj hq hd => hw ⟨j, q, hq, hd, by omega⟩)]
    have hmix' : upd (mixF (ps.take n) vs (fun i => listed.getD i false) 0 s.1) p.dst (vs.getD i .poison) = mixF (ps.take n) vs (fun j => (listed.setIfInBounds i true).getD j false) 0 s.1 := by
     funext t
     by_cases ht : p.dst = some t
     ·rw [mix_some _ _ _ _ _ hone hvl i p (by rw [getD_set (by omega)]; simp) hpt ht]
      simp [upd, ht]
     ·have hu : upd (mixF (ps.take n) vs (fun i => listed.getD i false) 0 s.1) p.dst (vs.getD i .poison) t = mixF (ps.take n) vs (fun i => listed.getD i false) 0 s.1 t := by
       unfold upd
       cases hd : p.dst with
       | none => rfl
       | some d =>
        have : t ≠ d := by rintro rfl; exact ht hd
        simp [this]
      rw [hu]
      by_cases hw : ∃ (j : Nat) (q : POp), (ps.take n)[j]? = some q ∧ q.dst = some t ∧ listed.getD j false = true
      ·obtain ⟨j, q, hj, hd, hjL⟩ := hw
       have hji : j ≠ i := by rintro rfl; rw [hiu] at hjL; cases hjL
       rw [mix_some _ _ _ _ _ hone hvl j q (by simpa using hjL) hj hd, mix_some _ _ _ _ _ hone hvl j q (by rw [getD_set (by omega), Nat.zero_add, if_neg hji]; exact hjL) hj hd]
      ·rw [mix_none _ _ _ _ _ (fun j q hj hq hd => hw ⟨j, q, hq, hd, by simpa using hj⟩), mix_none _ _ _ _ _ (fun j q hj hq hd => by
        rw [getD_set (by omega), Nat.zero_add] at hj
        by_cases hji : j = i
        ·subst hji
         rw [hpt] at hq; injection hq with hq; subst hq
         exact ht hd
        ·rw [if_neg hji] at hj; exact hw ⟨j, q, hq, hd, hj⟩)]
    have next : ∀ g' w' a', Rel ctx fr bd (upd (mixF (ps.take n) vs (fun i => listed.getD i false) 0 s.1) p.dst (vs.getD i .poison), s.2.1, s.2.2 || false) g' w' a' → Evo s.2.1.length g w g' w' → s.2.1.length ≤ s.2.1.length → wpAny P .any ops Q fuel (listed.setIfInBounds i true) a' w' := by
     intro g' w' a' hr' he' _
     rw [hmix', Bool.or_false] at hr'
     refine any_head hc hcall hps hn hlt hseq hclo hbl hone hlook hvl hvs h2 hq fuel _ g' w' a' (by simpa using hsz) ?_ ?_ (fun j hj => ?_) hr' (he.trans he')
     ·have := cnt_set (L := fun i => listed.getD i false) (L' := fun j => (listed.setIfInBounds i true).getD j false) (i := i) hiu (by rw [getD_set (by omega)]; simp) (fun j hj => by rw [getD_set (by omega), if_neg hj]) ops.size
      rw [this, if_pos hilt]; omega
     ·intro j hj k hk
      rw [getD_set (by omega)] at hj ⊢
      by_cases hki : k = i
      ·rw [if_pos hki]
      ·rw [if_neg hki]
       by_cases hji : j = i
       ·subst hji; exact hclo listed j hi hclosed k hk
       ·rw [if_neg hji] at hj; exact hclosed j hj k hk
     ·rw [getD_set (by omega)] at hj
      by_cases hji : j = i
      ·omega
      ·rw [if_neg hji] at hj; exact hl j hj
    obtain ⟨hd, hcase⟩ := hat'
    rcases hcase with ⟨hw, hst⟩ | ⟨hw, hv⟩
    ·exact wpOp_of_rel hc hcall hio hp2 hr hd hw (x := vs.getD i .poison) (S' := s.2.1) (e' := false) (by simpa using hst) _ _ next
    ·exact wpOp_of_rel hc hcall hio hp2 hr hd hw (x := vs.getD i .poison) (S' := s.2.1) (e' := false) (by simpa using hv) _ _ next
theorem any_chain (hc : CtxTy P ctx) (hcall : CallOk P ctx call) {ops : Array Oper} {ps : List POp} {n : Nat} (hps : popsOf m ops ops.toList = some ps) (hn : n ≤ ops.size)
  (hlt : ∀ (i : Nat) (o : Oper), ops[i]? = some o → ∀ e ∈ o.after, Region.binds .any e = true → e.on < i)
  (hseq : ∀ (listed : Array Bool) (i : Nat), n ≤ i → i ∈ Region.ready .any ops listed → (∀ j, listed.getD j false = true → ∀ k, ((aheadOf ops.toList []).getD j 0).testBit k = true → listed.getD k false = true) → ∀ j, j < i → listed.getD j false = true)
  (hclo : ∀ (listed : Array Bool) (i : Nat), i ∈ Region.ready .any ops listed → (∀ j, listed.getD j false = true → ∀ k, ((aheadOf ops.toList []).getD j 0).testBit k = true → listed.getD k false = true) → ∀ k, ((aheadOf ops.toList []).getD i 0).testBit k = true → listed.getD k false = true)
  (hbl : ∀ i k, i < ops.size → ((aheadOf ops.toList []).getD i 0).testBit k = true → k < i)
  (hone : Once (ps.take n)) (hlook : ∀ (i j : Nat) (p q : POp) (t : Nat), i < n → j < n → i ≠ j → ps[i]? = some p → ps[j]? = some q → q.dst = some t → t ∈ p.looks → ((aheadOf ops.toList []).getD i 0).testBit j = true)
  (hord : ∀ (i j : Nat) (p q : POp), i < n → j < i → ps[i]? = some p → ps[j]? = some q → chained p = true → chained q = true → ((aheadOf ops.toList []).getD i 0).testBit j = true)
  {σ0 : Nat → PV} {s' : St} {vs : List PV} {Ts : Nat → List SObj × Bool} (hvl : vs.length = (ps.take n).length) (hvs : ∀ (i : Nat) (p : POp), (ps.take n)[i]? = some p → ChainAt ctx call fr p (lex (ps.take n) vs σ0 i) (vs.getD i .poison) (Ts i) (Ts (i + 1)) (fun S' => S' ∈ ([] : List (List SObj)) ∨ ∃ j, j ≤ (ps.take n).length ∧ (Ts j).1 = S'))
  (h2 : evOps ctx call fr (ps.drop n) (lex (ps.take n) vs σ0 (ps.take n).length) (Ts n).1 (Ts n).2 = some s')
  {Q : Exit → Act → World → Prop} {g0 : G} {w0 : World} {N : Nat} (hq : ∀ g' w' a', Rel ctx fr bd s' g' w' a' → Evo N g0 w0 g' w' → N ≤ s'.2.1.length → Q .normal a' w') :
  ∀ (fuel : Nat) (listed : Array Bool) (mm : Nat) (g : G) (w : World) (a : Act), listed.size = ops.size → cnt (fun i => listed.getD i false) ops.size + fuel = ops.size →
   (∀ j, listed.getD j false = true → ∀ k, ((aheadOf ops.toList []).getD j 0).testBit k = true → listed.getD k false = true) →
   (∀ i, listed.getD i false = true → i < n) → mm ≤ n → (∀ (j : Nat) (p : POp), j < mm → ps[j]? = some p → chained p = true → listed.getD j false = true) → (∀ (j : Nat) (p : POp), mm ≤ j → j < n → ps[j]? = some p → chained p = true → listed.getD j false = false) →
   Rel ctx fr bd (mixF (ps.take n) vs (fun i => listed.getD i false) 0 σ0, (Ts mm).1, (Ts mm).2) g w a → Evo N g0 w0 g w → N ≤ (Ts mm).1.length →
   wpAny P .any ops Q fuel listed a w
 | fuel, listed, mm, g, w, a, hsz, hcnt, hclosed, hl, hmn', hlo, hhi, hr, he, hN => by
  obtain ⟨plen, pget⟩ := popsOf_get hps
  have hsize : ops.toList.length = ops.size := by simp
  have htl : (ps.take n).length = n := by simp; omega
  have tget : ∀ (i : Nat) (p : POp), (ps.take n)[i]? = some p ↔ i < n ∧ ps[i]? = some p := by
   intro i p
   rw [List.getElem?_take]
   by_cases h : i < n
   ·simp [h]
   ·simp [h]
  have hconst : ∀ (b c : Nat), c + b ≤ n → (∀ (j : Nat) (p : POp), c ≤ j → j < c + b → ps[j]? = some p → chained p = false) → Ts (c + b) = Ts c := by
   intro b
   induction b with
   | zero => intro c _ _; rfl
   | succ b ih =>
    intro c hcb hno
    have hlt' : c + b < ps.length := by omega
    have h1 := hvs (c + b) ps[c + b] ((tget _ _).2 ⟨by omega, List.getElem?_eq_getElem hlt'⟩)
    have h3 := hno (c + b) ps[c + b] (by omega) (by omega) (List.getElem?_eq_getElem hlt')
    have h4 : Ts (c + b + 1) = Ts (c + b) := by
     rcases h1.2 with h5 | h5 | h5
     ·exact h5.2.2
     ·rw [h3] at h5; cases h5.2.1
     ·exact h5.2.2.1
    rw [show c + (b + 1) = c + b + 1 by omega, h4]
    exact ih c (by omega) fun j p h6 h7 => hno j p h6 (by omega)
  by_cases hall : ∀ i, i < n → listed.getD i false = true
  ·-- all of them have come
   have hmix : mixF (ps.take n) vs (fun i => listed.getD i false) 0 σ0 = lex (ps.take n) vs σ0 (ps.take n).length := by
    funext t
    by_cases ht : ∃ (j : Nat) (q : POp), (ps.take n)[j]? = some q ∧ q.dst = some t
    ·obtain ⟨j, q, hj, hd⟩ := ht
     have hjn := ((tget j q).1 hj).1
     rw [mix_some _ _ _ _ _ hone hvl j q (by simpa using hall j hjn) hj hd, lex_some _ _ _ _ hone hvl j q (by omega) hj hd]
    ·rw [mix_none _ _ _ _ _ (fun j q _ hj hd => ht ⟨j, q, hj, hd⟩), lex_none _ _ _ _ (fun j q _ hj hd => ht ⟨j, q, hj, hd⟩)]
   rw [hmix] at hr
   have hTn : Ts n = Ts mm := by
    have := hconst (n - mm) mm (by omega) (fun j p h3 h4 h5 => by
     cases hc' : chained p with
     | false => rfl
     | true => have := hhi j p h3 (by omega) h5 hc'; rw [hall j (by omega)] at this; cases this)
    rwa [show mm + (n - mm) = n by omega] at this
   rw [← hTn] at hr hN
   exact any_tail hc hcall hps hlt hseq hclo hq fuel listed n _ g w a hsz hcnt hclosed (Nat.le_refl _) (fun i hi => ⟨hl i, hall i⟩) hr h2 he hN
  ·have : ∃ m, m < n ∧ listed.getD m false = false := by
    apply Classical.byContradiction
    intro hno
    apply hall
    intro j hj
    cases hc : listed.getD j false with
    | true => rfl
    | false => exact absurd ⟨j, hj, hc⟩ hno
   obtain ⟨m, hmn, hun⟩ := this
   cases fuel with
   | zero => have := cnt_all _ _ (by omega) m (by omega); rw [hun] at this; cases this
   | succ fuel =>
    refine ⟨fun h => absurd h (ready_unlisted hsz hlt m (by omega) hun), fun i hi => ?_⟩
    obtain ⟨hiu, o, hio, _⟩ := mem_ready.1 hi
    have hilt : i < ops.size := (Array.getElem?_eq_some_iff.1 hio).1
    have hiu : listed.getD i false = false := by
     rw [Array.getD_eq_getD_getElem?] at hiu ⊢
     rw [Array.getElem?_eq_getElem (by omega)] at hiu ⊢
     exact hiu
    have hin : i < n := by
     rcases Nat.lt_or_ge i n with h | h
     ·exact h
     ·have := hseq listed i h hi hclosed m (by omega)
      rw [hun] at this; cases this
    obtain ⟨p, hp1, hp2⟩ := pget i o (by simpa using hio)
    have hpt : (ps.take n)[i]? = some p := (tget i p).2 ⟨hin, hp1⟩
    have hat := hvs i p hpt
    have hat' : ChainAt ctx call fr p (mixF (ps.take n) vs (fun i => listed.getD i false) 0 σ0) (vs.getD i .poison) (Ts i) (Ts (i + 1)) (fun S' => S' ∈ ([] : List (List SObj)) ∨ ∃ j, j ≤ (ps.take n).length ∧ (Ts j).1 = S') := by
     refine hat.congr fun t ht => ?_
     by_cases hw : ∃ (j : Nat) (q : POp), (ps.take n)[j]? = some q ∧ q.dst = some t ∧ j ≠ i
     ·obtain ⟨j, q, hj, hd, hji⟩ := hw
      have hj' := (tget j q).1 hj
      have hb := hlook i j p q t hin hj'.1 (fun h => hji h.symm) hp1 hj'.2 hd ht
      have hjL := hclo listed i hi hclosed j hb
      rw [mix_some _ _ _ _ _ hone hvl j q (by simpa using hjL) hj hd, lex_some _ _ _ _ hone hvl j q (hbl i j hilt hb) hj hd]
     ·rw [mix_none _ _ _ _ _ (fun j q hj hq hd => by
       by_cases hji : j = i
       ·subst hji; simp at hj; rw [Array.getD_eq_getD_getElem?] at hiu; rw [hiu] at hj; cases hj
       ·exact hw ⟨j, q, hq, hd, hji⟩), lex_none _ _ _ _ (fun j q hj hq hd => hw ⟨j, q, hq, hd, by omega⟩)]
    have hmix' : upd (mixF (ps.take n) vs (fun i => listed.getD i false) 0 σ0) p.dst (vs.getD i .poison) = mixF (ps.take n) vs (fun j => (listed.setIfInBounds i true).getD j false) 0 σ0 := by
     funext t
     by_cases ht : p.dst = some t
     ·rw [mix_some _ _ _ _ _ hone hvl i p (by rw [getD_set (by omega)]; simp) hpt ht]
      simp [upd, ht]
     ·have hu : upd (mixF (ps.take n) vs (fun i => listed.getD i false) 0 σ0) p.dst (vs.getD i .poison) t = mixF (ps.take n) vs (fun i => listed.getD i false) 0 σ0 t := by
       unfold upd
       cases hd : p.dst with
       | none => rfl
       | some d =>
        have : t ≠ d := by rintro rfl; exact ht hd
        simp [this]
      rw [hu]
      by_cases hw : ∃ (j : Nat) (q : POp), (ps.take n)[j]? = some q ∧ q.dst = some t ∧ listed.getD j false = true
      ·obtain ⟨j, q, hj, hd, hjL⟩ := hw
       have hji : j ≠ i := by rintro rfl; rw [hiu] at hjL; cases hjL
       rw [mix_some _ _ _ _ _ hone hvl j q (by simpa using hjL) hj hd, mix_some _ _ _ _ _ hone hvl j q (by rw [getD_set (by omega), Nat.zero_add, if_neg hji]; exact hjL) hj hd]
      ·rw [mix_none _ _ _ _ _ (fun j q hj hq hd => hw ⟨j, q, hq, hd, by simpa using hj⟩), mix_none _ _ _ _ _ (fun j q hj hq hd => by
        rw [getD_set (by omega), Nat.zero_add] at hj
        by_cases hji : j = i
        ·subst hji
         rw [hpt] at hq; injection hq with hq; subst hq
         exact ht hd
        ·rw [if_neg hji] at hj; exact hw ⟨j, q, hq, hd, hj⟩)]
    have next : ∀ (m' : Nat), m' ≤ n → (∀ (j : Nat) (q : POp), j < m' → ps[j]? = some q → chained q = true → (listed.setIfInBounds i true).getD j false = true) → (∀ (j : Nat) (q : POp), m' ≤ j → j < n → ps[j]? = some q → chained q = true → (listed.setIfInBounds i true).getD j false = false) →
      ∀ g' w' a', Rel ctx fr bd (upd (mixF (ps.take n) vs (fun i => listed.getD i false) 0 σ0) p.dst (vs.getD i .poison), (Ts m').1, (Ts m').2) g' w' a' → Evo (Ts mm).1.length g w g' w' → (Ts mm).1.length ≤ (Ts m').1.length → wpAny P .any ops Q fuel (listed.setIfInBounds i true) a' w' := by
     intro m' hm' hlo' hhi' g' w' a' hr' he' hle'
     rw [hmix'] at hr'
     refine any_chain hc hcall hps hn hlt hseq hclo hbl hone hlook hord hvl hvs h2 hq fuel _ m' g' w' a' (by simpa using hsz) ?_ ?_ (fun j hj => ?_) hm' hlo' hhi' hr' (he.trans (he'.mono hN)) (Nat.le_trans hN hle')
     ·have := cnt_set (L := fun i => listed.getD i false) (L' := fun j => (listed.setIfInBounds i true).getD j false) (i := i) hiu (by rw [getD_set (by omega)]; simp) (fun j hj => by rw [getD_set (by omega), if_neg hj]) ops.size
      rw [this, if_pos hilt]; omega
     ·intro j hj k hk
      rw [getD_set (by omega)] at hj ⊢
      by_cases hki : k = i
      ·rw [if_pos hki]
      ·rw [if_neg hki]
       by_cases hji : j = i
       ·subst hji; exact hclo listed j hi hclosed k hk
       ·rw [if_neg hji] at hj; exact hclosed j hj k hk
     ·rw [getD_set (by omega)] at hj
      by_cases hji : j = i
      ·omega
      ·rw [if_neg hji] at hj; exact hl j hj
    have hqp : ∀ {q : POp}, ps[i]? = some q → q = p := fun h => by rw [hp1] at h; exact (Option.some.inj h).symm
    have hquiet : chained p = false → ∀ g' w' a', Rel ctx fr bd (upd (mixF (ps.take n) vs (fun i => listed.getD i false) 0 σ0) p.dst (vs.getD i .poison), (Ts mm).1, (Ts mm).2 || false) g' w' a' → Evo (Ts mm).1.length g w g' w' → (Ts mm).1.length ≤ (Ts mm).1.length → wpAny P .any ops Q fuel (listed.setIfInBounds i true) a' w' := by
     intro hch g' w' a' hr' he' hle'
     rw [Bool.or_false] at hr'
     refine next mm hmn' (fun j q h3 h4 h5 => ?_) (fun j q h3 h4 h5 h6 => ?_) g' w' a' hr' he' hle'
     ·rw [getD_set (by omega)]
      by_cases hji : j = i
      ·simp [hji]
      ·rw [if_neg hji]; exact hlo j q h3 h4 h5
     ·rw [getD_set (by omega)]
      by_cases hji : j = i
      ·subst hji; rw [hqp h5] at h6; rw [h6] at hch; cases hch
      ·rw [if_neg hji]; exact hhi j q h3 h4 h5 h6
    have hturn : chained p = true → Ts i = Ts mm ∧ ∀ g' w' a', Rel ctx fr bd (upd (mixF (ps.take n) vs (fun i => listed.getD i false) 0 σ0) p.dst (vs.getD i .poison), (Ts (i + 1)).1, (Ts (i + 1)).2) g' w' a' → Evo (Ts mm).1.length g w g' w' → (Ts mm).1.length ≤ (Ts (i + 1)).1.length → wpAny P .any ops Q fuel (listed.setIfInBounds i true) a' w' := by
     intro hch
     have hmi : mm ≤ i := by
      rcases Nat.lt_or_ge i mm with h | h
      ·have := hlo i p h hp1 hch; rw [hiu] at this; cases this
      ·exact h
     have hbef : ∀ (j : Nat) (q : POp), j < i → ps[j]? = some q → chained q = true → listed.getD j false = true := fun j q h3 h4 h5 => hclo listed i hi hclosed j (hord i j p q hin h3 hp1 h4 hch h5)
     refine ⟨?_, next (i + 1) (by omega) (fun j q h3 h4 h5 => ?_) (fun j q h3 h4 h5 h6 => ?_)⟩
     ·have := hconst (i - mm) mm (by omega) (fun j q h3 h4 h5 => by
       cases hc' : chained q with
       | false => rfl
       | true => have h6 := hhi j q h3 (by omega) h5 hc'; rw [hbef j q (by omega) h5 hc'] at h6; cases h6)
      rwa [show mm + (i - mm) = i by omega] at this
     ·rw [getD_set (by omega)]
      by_cases hji : j = i
      ·simp [hji]
      ·rw [if_neg hji]; exact hbef j q (by omega) h4 h5
     ·rw [getD_set (by omega), if_neg (by omega)]
      exact hhi j q (by omega) h4 h5 h6
    have hmem : (fun S' => S' ∈ ([] : List (List SObj)) ∨ ∃ j, j ≤ (ps.take n).length ∧ (Ts j).1 = S') (Ts mm).1 := .inr ⟨mm, by omega, rfl⟩
    obtain ⟨hd, hcase⟩ := hat'
    rcases hcase with ⟨hw, hv, hT⟩ | ⟨hw, hch, e, hst, hT⟩ | ⟨hw, hch, hT, hst⟩
    ·refine wpOp_of_rel hc hcall hio hp2 hr hd hw (x := vs.getD i .poison) (S' := (Ts mm).1) (e' := false) (by simpa using hv) _ _ ?_
     by_cases hch : chained p = true
     ·obtain ⟨t1, t2⟩ := hturn hch
      rw [hT, t1] at t2
      intro g' w' a' hr' he' hle'
      rw [Bool.or_false] at hr'
      exact t2 g' w' a' hr' he' hle'
     ·exact hquiet (by simpa using hch)
    ·obtain ⟨t1, t2⟩ := hturn hch
     rw [t1] at hst hT
     refine wpOp_of_rel hc hcall hio hp2 hr hd hw (x := vs.getD i .poison) (S' := (Ts (i + 1)).1) (e' := e) (by simpa using hst) _ _ ?_
     intro g' w' a' hr' he' hle'
     refine t2 g' w' a' ?_ he' hle'
     rw [hT]; exact hr'
    ·exact wpOp_of_rel hc hcall hio hp2 hr hd hw (x := vs.getD i .poison) (S' := (Ts mm).1) (e' := false) (by simpa using hst _ hmem) _ _ (hquiet hch)
theorem draw_sound (hc : CtxTy P ctx) (hcall : CallOk P ctx call) (hm : P.follows .mixedOrders = true) {id : Nat} {ops : Array Oper} {ps : List POp} {n : Nat} (hps : popsOf m ops ops.toList = some ps) (hok : drawOk ops.toList ps n = true)
  {s s' : St} {σ : Nat → PV} {g : G} {w : World} {a : Act} {Q : Exit → Act → World → Prop} (h1 : evHead ctx call fr s.2.1 (ps.take n) s.1 = some σ) (h2 : evOps ctx call fr (ps.drop n) σ s.2.1 s.2.2 = some s') (hr : Rel ctx fr bd s g w a)
  (hq : ∀ g' w' a', Rel ctx fr bd s' g' w' a' → Evo s.2.1.length g w g' w' → s.2.1.length ≤ s'.2.1.length → Q .normal a' w') : (Code.region id ops true).wp P Q a w := by
 obtain ⟨plen, pget⟩ := popsOf_get hps
 have hsize : ops.toList.length = ops.size := by simp
 simp only [drawOk, Bool.and_eq_true, decide_eq_true_eq] at hok
 obtain ⟨⟨⟨c1, c2⟩, c3⟩, c4⟩ := hok
 have zget : ∀ (i : Nat) (o : Oper), ops[i]? = some o → (o, i) ∈ ops.toList.zipIdx := by
  intro i o hi
  rw [List.mem_zipIdx_iff_getElem?]
  simpa using hi
 have hlt : ∀ (i : Nat) (o : Oper), ops[i]? = some o → ∀ e ∈ o.after, Region.binds .any e = true → e.on < i := by
  intro i o hi e he hb
  have := List.all_eq_true.1 c2 (o, i) (zget i o hi)
  have := List.all_eq_true.1 this e (by simpa using he)
  simpa [hb] using this
 have hbit : ∀ i k, i < ops.size → ((aheadOf ops.toList []).getD i 0).testBit k = true → ∃ o, ops[i]? = some o ∧ ∃ e ∈ o.after, Region.binds .any e = true ∧ (k = e.on ∨ ((aheadOf ops.toList []).getD e.on 0).testBit k = true) := by
  intro i k hi hb
  obtain ⟨e, e1, e2, e3⟩ := ahead_bit (l := ops.toList) (o := ops[i]) (by simp [hi]) hb (fun e he hb => hlt i ops[i] (by simp [hi]) e (by simpa using he) hb)
  exact ⟨ops[i], by simp [hi], e, by simpa using e1, e2, e3⟩
 have hbl : ∀ i k, i < ops.size → ((aheadOf ops.toList []).getD i 0).testBit k = true → k < i := by
  intro i
  induction i using Nat.strongRecOn with
  | _ i ih =>
   intro k hi hb
   obtain ⟨o, ho, e, e1, e2, e3⟩ := hbit i k hi hb
   have hei := hlt i o ho e e1 e2
   rcases e3 with rfl | e3
   ·exact hei
   ·have := ih e.on hei k (by omega) e3
    omega
 have hclo : ∀ (listed : Array Bool) (i : Nat), i ∈ Region.ready .any ops listed → (∀ j, listed.getD j false = true → ∀ k, ((aheadOf ops.toList []).getD j 0).testBit k = true → listed.getD k false = true) → ∀ k, ((aheadOf ops.toList []).getD i 0).testBit k = true → listed.getD k false = true := by
  intro listed i hi hcl k hk
  obtain ⟨_, o, ho, h3⟩ := mem_ready.1 hi
  have hil : i < ops.size := (Array.getElem?_eq_some_iff.1 ho).1
  obtain ⟨o', ho', e, e1, e2, e3⟩ := hbit i k hil hk
  rw [ho] at ho'; injection ho' with ho'; subst ho'
  have hL := h3 e e1 e2
  rcases e3 with rfl | e3
  ·exact hL
  ·exact hcl _ hL k e3
 have hseq : ∀ (listed : Array Bool) (i : Nat), n ≤ i → i ∈ Region.ready .any ops listed → (∀ j, listed.getD j false = true → ∀ k, ((aheadOf ops.toList []).getD j 0).testBit k = true → listed.getD k false = true) → ∀ j, j < i → listed.getD j false = true := by
  intro listed i hni hi hcl j hj
  obtain ⟨_, o, ho, _⟩ := mem_ready.1 hi
  have hil : i < ops.size := (Array.getElem?_eq_some_iff.1 ho).1
  have := List.all_eq_true.1 c4 i (by simp; omega)
  simp only [Bool.or_eq_true, decide_eq_true_eq] at this
  rcases this with h | h
  ·omega
  ·exact hclo listed i hi hcl j (List.all_eq_true.1 h j (by simpa using hj))
 have pz : ∀ (i : Nat) (p : POp), i < n → ps[i]? = some p → (p, i) ∈ (ps.take n).zipIdx := by
  intro i p hi hp
  rw [List.mem_zipIdx_iff_getElem?]
  simpa [List.getElem?_take, hi] using hp
 have c3' : ∀ (i j : Nat) (p q : POp), i < n → j < n → i ≠ j → ps[i]? = some p → ps[j]? = some q → (p.dst = none ∨ p.dst ≠ q.dst) ∧ ∀ t, q.dst = some t → t ∈ p.looks → ((aheadOf ops.toList []).getD i 0).testBit j = true := by
  intro i j p q hi hj hij hp hq
  have := List.all_eq_true.1 c3 (p, i) (pz i p hi hp)
  have := List.all_eq_true.1 this (q, j) (pz j q hj hq)
  simp only [Bool.or_eq_true, Bool.and_eq_true, beq_iff_eq, hij, false_or, bne_iff_ne, Option.isNone_iff_eq_none] at this
  refine ⟨this.1, fun t ht hl => ?_⟩
  have h2 := this.2
  rw [ht] at h2
  simpa [hl] using h2
 have tget : ∀ (i : Nat) (p : POp), (ps.take n)[i]? = some p → i < n ∧ ps[i]? = some p := by
  intro i p h
  rw [List.getElem?_take] at h
  by_cases hi : i < n
  ·rw [if_pos hi] at h; exact ⟨hi, h⟩
  ·rw [if_neg hi] at h; cases h
 have hone : Once (ps.take n) := by
  intro i j p q t hi hj hp hq
  by_cases hij : i = j
  ·exact hij
  ·have := (c3' i j p q (tget i p hi).1 (tget j q hj).1 hij (tget i p hi).2 (tget j q hj).2).1
   rw [hp, hq] at this
   simp at this
 obtain ⟨vs, v1, v2, v3⟩ := head_trace _ _ _ h1
 rw [← v2] at h2
 refine wp_region_any hm ?_
 have hfalse : ∀ i, (Array.replicate ops.size false).getD i false = false := by
  intro i
  rw [Array.getD_eq_getD_getElem?, Array.getElem?_replicate]
  split <;> rfl
 have hmix : mixF (ps.take n) vs (fun i => (Array.replicate ops.size false).getD i false) 0 s.1 = s.1 := by
  funext t
  exact mix_none _ _ _ _ _ (fun j q hj => by rw [hfalse] at hj; cases hj)
 have hcnt0 : ∀ k, cnt (fun i => (Array.replicate ops.size false).getD i false) k = 0 := by
  intro k
  induction k with
  | zero => rfl
  | succ k ih => unfold cnt; rw [ih, hfalse]; rfl
 refine any_head hc hcall hps (by omega) hlt hseq hclo hbl hone (fun i j p q t hi hj hij hp hq hd hl => (c3' i j p q hi hj hij hp hq).2 t hd hl) v1 v3 h2 hq ops.size _ g _ a (by simp) (by rw [hcnt0]; omega)
  (fun j hj => by rw [hfalse] at hj; cases hj) (fun i hi => by rw [hfalse] at hi; cases hi) ?_ (Evo.drawn rfl rfl rfl rfl)
 rw [hmix]
 have he : Evo s.2.1.length g w g { w with drawn := w.drawn + 1 } := Evo.drawn rfl rfl rfl rfl
 exact ⟨hr.slots.evo he, hr.size, hr.defers, hr.r.drawn rfl rfl rfl rfl, hr.gl.evo he⟩
theorem chain_sound (hc : CtxTy P ctx) (hcall : CallOk P ctx call) (hm : P.follows .mixedOrders = true) {id : Nat} {ops : Array Oper} {ps : List POp} {n : Nat} (hps : popsOf m ops ops.toList = some ps) (hok : drawOk ops.toList ps n = true) (hco : chainOk ops.toList ps n = true)
  {s s1 s' : St} {g : G} {w : World} {a : Act} {Q : Exit → Act → World → Prop} (h1 : evChain ctx call fr (ps.take n) [] [] s.1 s.2.1 s.2.2 = some s1) (h2 : evOps ctx call fr (ps.drop n) s1.1 s1.2.1 s1.2.2 = some s') (hr : Rel ctx fr bd s g w a)
  (hq : ∀ g' w' a', Rel ctx fr bd s' g' w' a' → Evo s.2.1.length g w g' w' → s.2.1.length ≤ s'.2.1.length → Q .normal a' w') : (Code.region id ops true).wp P Q a w := by
 obtain ⟨plen, pget⟩ := popsOf_get hps
 have hsize : ops.toList.length = ops.size := by simp
 simp only [drawOk, Bool.and_eq_true, decide_eq_true_eq] at hok
 obtain ⟨⟨⟨c1, c2⟩, c3⟩, c4⟩ := hok
 have zget : ∀ (i : Nat) (o : Oper), ops[i]? = some o → (o, i) ∈ ops.toList.zipIdx := by
  intro i o hi
  rw [List.mem_zipIdx_iff_getElem?]
  simpa using hi
 have hlt : ∀ (i : Nat) (o : Oper), ops[i]? = some o → ∀ e ∈ o.after, Region.binds .any e = true → e.on < i := by
  intro i o hi e he hb
  have := List.all_eq_true.1 c2 (o, i) (zget i o hi)
  have := List.all_eq_true.1 this e (by simpa using he)
  simpa [hb] using this
 have hbit : ∀ i k, i < ops.size → ((aheadOf ops.toList []).getD i 0).testBit k = true → ∃ o, ops[i]? = some o ∧ ∃ e ∈ o.after, Region.binds .any e = true ∧ (k = e.on ∨ ((aheadOf ops.toList []).getD e.on 0).testBit k = true) := by
  intro i k hi hb
  obtain ⟨e, e1, e2, e3⟩ := ahead_bit (l := ops.toList) (o := ops[i]) (by simp [hi]) hb (fun e he hb => hlt i ops[i] (by simp [hi]) e (by simpa using he) hb)
  exact ⟨ops[i], by simp [hi], e, by simpa using e1, e2, e3⟩
 have hbl : ∀ i k, i < ops.size → ((aheadOf ops.toList []).getD i 0).testBit k = true → k < i := by
  intro i
  induction i using Nat.strongRecOn with
  | _ i ih =>
   intro k hi hb
   obtain ⟨o, ho, e, e1, e2, e3⟩ := hbit i k hi hb
   have hei := hlt i o ho e e1 e2
   rcases e3 with rfl | e3
   ·exact hei
   ·have := ih e.on hei k (by omega) e3
    omega
 have hclo : ∀ (listed : Array Bool) (i : Nat), i ∈ Region.ready .any ops listed → (∀ j, listed.getD j false = true → ∀ k, ((aheadOf ops.toList []).getD j 0).testBit k = true → listed.getD k false = true) → ∀ k, ((aheadOf ops.toList []).getD i 0).testBit k = true → listed.getD k false = true := by
  intro listed i hi hcl k hk
  obtain ⟨_, o, ho, h3⟩ := mem_ready.1 hi
  have hil : i < ops.size := (Array.getElem?_eq_some_iff.1 ho).1
  obtain ⟨o', ho', e, e1, e2, e3⟩ := hbit i k hil hk
  rw [ho] at ho'; injection ho' with ho'; subst ho'
  have hL := h3 e e1 e2
  rcases e3 with rfl | e3
  ·exact hL
  ·exact hcl _ hL k e3
 have hseq : ∀ (listed : Array Bool) (i : Nat), n ≤ i → i ∈ Region.ready .any ops listed → (∀ j, listed.getD j false = true → ∀ k, ((aheadOf ops.toList []).getD j 0).testBit k = true → listed.getD k false = true) → ∀ j, j < i → listed.getD j false = true := by
  intro listed i hni hi hcl j hj
  obtain ⟨_, o, ho, _⟩ := mem_ready.1 hi
  have hil : i < ops.size := (Array.getElem?_eq_some_iff.1 ho).1
  have := List.all_eq_true.1 c4 i (by simp; omega)
  simp only [Bool.or_eq_true, decide_eq_true_eq] at this
  rcases this with h | h
  ·omega
  ·exact hclo listed i hi hcl j (List.all_eq_true.1 h j (by simpa using hj))
 have pz : ∀ (i : Nat) (p : POp), i < n → ps[i]? = some p → (p, i) ∈ (ps.take n).zipIdx := by
  intro i p hi hp
  rw [List.mem_zipIdx_iff_getElem?]
  simpa [List.getElem?_take, hi] using hp
 have c3' : ∀ (i j : Nat) (p q : POp), i < n → j < n → i ≠ j → ps[i]? = some p → ps[j]? = some q → (p.dst = none ∨ p.dst ≠ q.dst) ∧ ∀ t, q.dst = some t → t ∈ p.looks → ((aheadOf ops.toList []).getD i 0).testBit j = true := by
  intro i j p q hi hj hij hp hq
  have := List.all_eq_true.1 c3 (p, i) (pz i p hi hp)
  have := List.all_eq_true.1 this (q, j) (pz j q hj hq)
  simp only [Bool.or_eq_true, Bool.and_eq_true, beq_iff_eq, hij, false_or, bne_iff_ne, Option.isNone_iff_eq_none] at this
  refine ⟨this.1, fun t ht hl => ?_⟩
  have h2 := this.2
  rw [ht] at h2
  simpa [hl] using h2
 have tget : ∀ (i : Nat) (p : POp), (ps.take n)[i]? = some p → i < n ∧ ps[i]? = some p := by
  intro i p h
  rw [List.getElem?_take] at h
  by_cases hi : i < n
  ·rw [if_pos hi] at h; exact ⟨hi, h⟩
  ·rw [if_neg hi] at h; cases h
 have hone : Once (ps.take n) := by
  intro i j p q t hi hj hp hq
  by_cases hij : i = j
  ·exact hij
  ·have := (c3' i j p q (tget i p hi).1 (tget j q hj).1 hij (tget i p hi).2 (tget j q hj).2).1
   rw [hp, hq] at this
   simp at this
 obtain ⟨vs, Ts, v1, v4, v5, v2, _, v3⟩ := chain_trace _ _ _ _ _ _ _ h1 (fun q hq => by cases hq)
 have hlen : (ps.take n).length = n := by simp; omega
 rw [hlen] at v5
 rw [← v2, ← v5] at h2
 have hord : ∀ (i j : Nat) (p q : POp), i < n → j < i → ps[i]? = some p → ps[j]? = some q → chained p = true → chained q = true → ((aheadOf ops.toList []).getD i 0).testBit j = true := by
  intro i j p q hi hj hp hq hcp hcq
  have := List.all_eq_true.1 hco (p, i) (pz i p hi hp)
  have := List.all_eq_true.1 this (q, j) (pz j q (by omega) hq)
  simpa [hcp, hcq, hj] using this
 refine wp_region_any hm ?_
 have hfalse : ∀ i, (Array.replicate ops.size false).getD i false = false := by
  intro i
  rw [Array.getD_eq_getD_getElem?, Array.getElem?_replicate]
  split <;> rfl
 have hmix : mixF (ps.take n) vs (fun i => (Array.replicate ops.size false).getD i false) 0 s.1 = s.1 := by
  funext t
  exact mix_none _ _ _ _ _ (fun j q hj => by rw [hfalse] at hj; cases hj)
 have hcnt0 : ∀ k, cnt (fun i => (Array.replicate ops.size false).getD i false) k = 0 := by
  intro k
  induction k with
  | zero => rfl
  | succ k ih => unfold cnt; rw [ih, hfalse]; rfl
 refine any_chain hc hcall hps (by omega) hlt hseq hclo hbl hone (fun i j p q t hi hj hij hp hq hd hl => (c3' i j p q hi hj hij hp hq).2 t hd hl) hord v1 v3 h2 hq ops.size _ 0 g _ a (by simp) (by rw [hcnt0]; omega)
  (fun j hj => by rw [hfalse] at hj; cases hj) (fun i hi => by rw [hfalse] at hi; cases hi) (Nat.zero_le _) (fun j p hj => by omega) (fun j p _ _ _ _ => hfalse j) ?_ (Evo.drawn rfl rfl rfl rfl) (by rw [v4]; exact Nat.le_refl _)
 rw [hmix, v4]
 have he : Evo s.2.1.length g w g { w with drawn := w.drawn + 1 } := Evo.drawn rfl rfl rfl rfl
 exact ⟨hr.slots.evo he, hr.size, hr.defers, hr.r.drawn rfl rfl rfl rfl, hr.gl.evo he⟩
theorem mview_spec {it : Nat} {s : St} {q : Nat × Nat × List Nat × List (PV × PV)} (h : mview it s = some q) :
  s.1 it = .ptr q.1 0 ∧ s.2.1[q.1]? = some (.iter (some q.2.1) q.2.2.2.length q.2.2.1) ∧ s.2.1[q.2.1]? = some (.map q.2.2.2) := by
 unfold mview at h
 split at h
 case h_2 => cases h
 rename_i i hi
 split at h
 case h_2 => cases h
 rename_i id since seen h1
 split at h
 case h_2 => cases h
 rename_i es h2
 split at h
 case isFalse => cases h
 rename_i h3
 injection h with h; subst h; subst h3
 exact ⟨hi, h1, h2⟩
theorem mloop_sound (hc : CtxTy P ctx) (hcall : CallOk P ctx call) {k id : Nat} {c : Code} {pc : PC} {s s' : St} {x : Ex} {g : G} {w : World} {a : Act} {Q : Exit → Act → World → Prop} (hp : mloopOf m id c = some pc)
  (h : evCode ctx call fr k pc s = some (x, s')) (hr : Rel ctx fr bd s g w a)
  (hq : ∀ g' w' a', Rel ctx fr bd s' g' w' a' → Evo s.2.1.length g w g' w' → s.2.1.length ≤ s'.2.1.length → Q x.to a' w') : (Code.block id c).wp P Q a w := by
 unfold mloopOf at hp
 split at hp
 case h_2 => cases hp
 rename_i r1 hd cnd id' e2 r6 o6 r7 o7
 split at hp
 case h_2 => cases hp
 rename_i t1 it ty pos aft tl hhd
 split at hp
 case h_2 => cases hp
 rename_i p2 p6 p7 hp2 hp6 hp7
 split at hp
 case isFalse => cases hp
 rename_i hid
 subst hid
 injection hp with hp; subst hp
 simp only [evCode] at h
 split at h
 case h_2 => cases h
 rename_i i0 id0 es0 hv0
 obtain ⟨r, hall, hxr⟩ := Option.map_eq_some_iff.1 h
 injection hxr with hx hs'
 subst hx; subst hs'
 clear h
 generalize es0.length = n at hall
 refine wp_block (wp_loop_rounds (n + 1) ?_)
 generalize n + 1 = kk at hall
 have main : ∀ (kk : Nat) (seen : List Nat) (s r : St) (g : G) (w : World) (a : Act), allM (mround ctx call fr it t1 p2 cnd p6 p7 n) (mfin ctx call fr it t1 p2 cnd n) (keepOf m) n kk seen s = some r → Rel ctx fr bd s g w a →
   (∀ g' w' a', Rel ctx fr bd (normM (keepOf m) r) g' w' a' → Evo s.2.1.length g w g' w' → s.2.1.length ≤ r.2.1.length → Q .normal a' w') →
   Code.rounds P (.seq (.region r1 hd false) (.seq (.cond cnd .skip (.exit id')) (.block e2 (.seq (.region r6 o6 false) (.region r7 o7 false))))) (Exit.inBlock id' Q) kk a w := by
  intro kk
  induction kk with
  | zero => intro seen s r g w a h; simp [allM] at h
  | succ kk ih =>
   intro seen s r g w a h hr hq
   rw [rounds_succ]
   refine wp_seq (wp_region_list ?_)
   rw [hhd]
   unfold wpList
   have hwant : Region.wanted (⟨some t1, .next (.tmp it) false, ty, pos, aft, none⟩ : Oper) (yielded hd a.tmps) = true := rfl
   rw [if_pos hwant]
   refine .inl ?_
   -- what the machine sees
   have view : ∃ i id es, s.1 it = .ptr i 0 ∧ s.2.1[i]? = some (.iter (some id) n seen) ∧ s.2.1[id]? = some (.map es) ∧ n = es.length ∧ t1 < fr.ntmps := by
    simp only [allM] at h
    split at h
    ·simp only [mfin] at h
     split at h
     case h_2 => cases h
     rename_i i id seen' es hv
     split at h
     case isFalse => cases h
     rename_i hc3
     obtain ⟨c1, c2, c3⟩ := hc3
     obtain ⟨v1, v2, v3⟩ := mview_spec hv
     exact ⟨i, id, es, v1, by rw [← c1, c2]; exact v2, v3, c2, c3⟩
    ·rename_i j0 js hf
     split at h
     ·cases h
     rename_i q hq0
     obtain ⟨s1, hs1, _⟩ := Option.bind_eq_some_iff.1 hq0
     simp only [mround] at hs1
     split at hs1
     case h_2 => cases hs1
     rename_i i id seen' es hv
     split at hs1
     case isFalse => cases hs1
     rename_i hc3
     obtain ⟨c1, c2, c3⟩ := hc3
     obtain ⟨v1, v2, v3⟩ := mview_spec hv
     exact ⟨i, id, es, v1, by rw [← c1, c2]; exact v2, v3, c2, c3⟩
   obtain ⟨i, id, es, v1, v2, v3, v4, v5⟩ := view
   have hvw : mview it s = some (i, id, seen, es) := by
    unfold mview
    rw [v1]; simp only [v2, v3, v4, if_true]
   have hsl := hr.slots it
   rw [v1] at hsl
   obtain ⟨ha, i1, i2⟩ := hsl.inv_ptr
   have hev : a.eval (.tmp it) = .pointer (some ⟨g.loc i, 0, none⟩) := ha
   have hd' : ∀ q, some t1 = some q → q < fr.ntmps := fun q hq => by injection hq with hq; subst hq; exact v5
   rcases step_nextM (P := P) (ty := ty) hr.r v2 v3 v4 with ⟨hall, hrun⟩ | ⟨j, kv, v, w1, hj, hns, hkv, hrun, hgood⟩
   ·-- none is left
    have hf : ((List.range n).filter fun j => !seen.contains j) = [] := by
     rw [List.filter_eq_nil_iff]
     intro j hj
     simpa using hall j (by simpa using hj)
    simp only [allM, hf] at h
    simp only [mfin, hvw] at h
    rw [if_pos ⟨trivial, v4, v5⟩] at h
    split at h
    case h_2 => cases h
    rename_i s1 hs1
    split at h
    case h_2 => cases h
    rename_i mp si se hcf hit
    injection h with h; subst h
    have hg0 : Good (if s.2.2 then 0 else fr.base) bd s.2.1 g w (.tup [.bool false]) s.2.1 false (.tuple #[.bool false]) w := Good.same hr.r (.tup _ _ rfl (fun i c hi => by
     rcases i with _ | i
     ·simp at hi; subst hi; exact .bool _
     ·simp at hi))
    refine (OpOk.value (Post := fun v w' => v = .tuple #[.bool false] ∧ w' = w) (v := .tuple #[.bool false]) (w' := w) (by simp [execOp, hev, hrun]) ⟨rfl, rfl⟩) _ _ ?_
    rintro v w' ⟨rfl, rfl⟩
    obtain ⟨g1, r1, e1, l1⟩ := step_rel (fr := fr) hr hd' hg0
    rw [Bool.or_false] at r1
    refine evOps_sound hc hcall tl p2 _ s1 g1 _ _ hp2 hs1 r1 ?_
    intro g2 w2 a2 r2 e2' l2
    simp only [] at e2' l2
    have ho := opd_sound r2.slots cnd
    rw [hcf] at ho
    refine wp_seq (wp_cond_false ho.inv_bool (wp_exit ?_))
    have hobj : g2.obj i = true := (r2.r.live i _ hit).1
    show (if id' = id' then Q .normal a2 w2 else Q (.exit id') a2 w2)
    rw [if_pos rfl]
    refine hq g2 w2 a2 ⟨fun t => ?_, r2.size, r2.defers, ?_, r2.gl⟩ (e1.trans e2') (by simp only [List.length_set]; exact l2)
    ·show V g2 w2 (s1.2.1.set i .dead).length (if (keepOf m).contains t then s1.1 t else .poison) _
     rw [List.length_set]
     split
     ·exact r2.slots t
     ·exact .poison _
    ·have hk := R.kill r2.r hit hobj
     simp only [normM, if_true]
     split at hk
     ·exact hk
     ·exact R.weaken hk
   ·-- one of them
    have hmem : j ∈ (List.range n).filter fun j => !seen.contains j := by simp [hj, hns]
    have one : ∃ s1 r', mround ctx call fr it t1 p2 cnd p6 p7 n seen j s = some s1 ∧ allM (mround ctx call fr it t1 p2 cnd p6 p7 n) (mfin ctx call fr it t1 p2 cnd n) (keepOf m) n kk (seen ++ [j]) s1 = some r' ∧
      normM (keepOf m) r' = normM (keepOf m) r := by
     simp only [allM] at h
     split at h
     ·rename_i hf; rw [hf] at hmem; cases hmem
     rename_i j0 js hf
     split at h
     ·cases h
     rename_i q hq0
     split at h
     case isFalse => cases h
     rename_i hjs
     injection h with h; subst h
     rw [hf] at hmem
     rcases List.mem_cons.1 hmem with rfl | hmem
     ·obtain ⟨s1, h1, h2⟩ := Option.bind_eq_some_iff.1 hq0
      exact ⟨s1, q, h1, h2, rfl⟩
     ·have := List.all_eq_true.1 hjs j hmem
      unfold agree at this
      split at this
      case h_2 => cases this
      rename_i r' hr'
      obtain ⟨s1, h1, h2⟩ := Option.bind_eq_some_iff.1 hr'
      refine ⟨s1, r', h1, h2, ?_⟩
      simp only [sameSt, Bool.and_eq_true, List.all_eq_true] at this
      obtain ⟨t1', t3'⟩ := this
      unfold normM
      rw [sameS_eq _ _ t1']
      congr 1
      funext t
      split
      ·rename_i ht
       exact PV.same_eq _ _ (t3' t (by simpa using ht))
      ·rfl
    obtain ⟨s1, r', h1, h2, h3⟩ := one
    simp only [mround, hvw] at h1
    rw [if_pos ⟨trivial, v4, v5⟩] at h1
    simp only [hkv] at h1
    split at h1
    case h_2 => cases h1
    rename_i sa hsa
    split at h1
    case h_2 => cases h1
    rename_i hct
    split at h1
    case h_2 => cases h1
    rename_i sb hsb
    refine (OpOk.value (Post := fun v' w' => v' = v ∧ w' = w1) (v := v) (w' := w1) (by simp [execOp, hev, hrun]) ⟨rfl, rfl⟩) _ _ ?_
    rintro v' w' ⟨rfl, rfl⟩
    obtain ⟨g1, r1, e1, l1⟩ := step_rel (fr := fr) hr hd' hgood
    rw [Bool.or_false] at r1
    refine evOps_sound hc hcall tl p2 _ sa g1 _ _ hp2 hsa r1 ?_
    intro g2 w2 a2 r2 e2' l2
    have ho := opd_sound r2.slots cnd
    rw [hct] at ho
    refine wp_seq (wp_cond_true ho.inv_bool (wp_skip (wp_block (wp_seq (wp_region_list (evOps_sound hc hcall o6.toList p6 sa sb g2 w2 a2 hp6 hsb r2 ?_))))))
    intro g3 w3 a3 r3 e3 l3
    refine wp_region_list (evOps_sound hc hcall o7.toList p7 sb s1 g3 w3 a3 hp7 h1 r3 ?_)
    intro g4 w4 a4 r4 e4 l4
    have l1' : s.2.1.length ≤ sa.2.1.length := Nat.le_trans l1 l2
    have e12 := e1.trans (e2'.mono l1)
    have e13 := e12.trans (e3.mono l1')
    have e14 := e13.trans (e4.mono (Nat.le_trans l1' l3))
    refine ih (seen ++ [j]) s1 r' g4 w4 a4 h2 r4 ?_
    intro g5 w5 a5 r5 e5 l5
    have hrl : r'.2.1.length = r.2.1.length := by
     have := congrArg (fun q : St => q.2.1.length) h3
     exact this
    rw [h3] at r5
    exact hq g5 w5 a5 r5 (e14.trans (e5.mono (Nat.le_trans l1' (Nat.le_trans l3 l4)))) (by rw [← hrl]; exact Nat.le_trans (Nat.le_trans l1' (Nat.le_trans l3 l4)) l5)
 exact main kk [] s r g w a hall hr hq
theorem evCode_sound (hc : CtxTy P ctx) (hcall : CallOk P ctx call) (hm : P.follows .mixedOrders = true) (k : Nat) {m : List Nat} : ∀ (c : Code) (pc : PC) (s s' : St) (x : Ex) (g : G) (w : World) (a : Act) (Q : Exit → Act → World → Prop), compile m c = some pc → evCode ctx call fr k pc s = some (x, s') → Rel ctx fr bd s g w a →
  (∀ g' w' a', Rel ctx fr bd s' g' w' a' → Evo s.2.1.length g w g' w' → s.2.1.length ≤ s'.2.1.length → Q x.to a' w') → c.wp P Q a w := by
 intro c
 induction c with
 | skip =>
  intro pc s s' x g w a Q hp h hr hq
  simp only [compile] at hp; injection hp with hp; subst hp
  simp only [evCode] at h; injection h with h; injection h with h1 h2; subst h1; subst h2
  exact wp_skip (hq g w a hr (Evo.refl _ _ _) (Nat.le_refl _))
 | label l =>
  intro pc s s' x g w a Q hp h hr hq
  simp only [compile] at hp; injection hp with hp; subst hp
  simp only [evCode] at h; injection h with h; injection h with h1 h2; subst h1; subst h2
  exact wp_label (hq g w a hr (Evo.refl _ _ _) (Nat.le_refl _))
 | region id ops draw =>
  intro pc s s' x g w a Q hp h hr hq
  cases draw with
  | true =>
   simp only [compile] at hp
   split at hp
   case h_2 => cases hp
   rename_i ps hps
   split at hp
   case isFalse => cases hp
   rename_i hok
   split at hp
   ·split at hp
    case isFalse => cases hp
    rename_i hco
    injection hp with hp; subst hp
    simp only [evCode] at h
    split at h
    case h_2 => cases h
    rename_i s0 h1
    split at h
    case h_2 => cases h
    rename_i s1 h2
    injection h with h; injection h with h3 h4; subst h3; subst h4
    exact chain_sound hc hcall hm hps hok hco h1 h2 hr hq
   ·injection hp with hp; subst hp
    simp only [evCode] at h
    split at h
    case h_2 => cases h
    rename_i σ h1
    split at h
    case h_2 => cases h
    rename_i s1 h2
    injection h with h; injection h with h3 h4; subst h3; subst h4
    exact draw_sound hc hcall hm hps hok h1 h2 hr hq
  | false =>
   simp only [compile] at hp
   cases hps : popsOf m ops ops.toList with
   | none => simp [hps] at hp
   | some ps =>
    simp [hps] at hp; subst hp
    simp only [evCode] at h
    split at h
    ·rename_i s1 h1
     injection h with h; injection h with h2 h3; subst h2; subst h3
     exact wp_region_list (evOps_sound hc hcall ops.toList ps s s1 g w a hps h1 hr hq)
    ·cases h
 | seq c1 c2 ih1 ih2 =>
  intro pc s s' x g w a Q hp h hr hq
  simp only [compile] at hp
  split at hp
  case h_2 => cases hp
  rename_i p1 p2 hp1 hp2
  injection hp with hp; subst hp
  simp only [evCode] at h
  split at h
  ·rename_i s1 h1
   refine wp_seq (ih1 p1 s s1 .normal g w a _ hp1 h1 hr ?_)
   intro g1 w1 a1 r1 e1 l1
   exact ih2 p2 s1 s' x g1 w1 a1 Q hp2 h r1 (fun g' w' a' r' e' l' => hq g' w' a' r' (e1.trans (e'.mono l1)) (Nat.le_trans l1 l'))
  ·rename_i hne
   refine wp_seq (ih1 p1 s s' x g w a _ hp1 h hr ?_)
   intro g1 w1 a1 r1 e1 l1
   cases x with
   | normal => exact absurd h (hne s')
   | exit id => exact hq g1 w1 a1 r1 e1 l1
   | ret => exact hq g1 w1 a1 r1 e1 l1
 | cond o c1 c2 ih1 ih2 =>
  intro pc s s' x g w a Q hp h hr hq
  simp only [compile] at hp
  split at hp
  case h_2 => cases hp
  rename_i p1 p2 hp1 hp2
  injection hp with hp; subst hp
  have ho := opd_sound hr.slots o
  simp only [evCode] at h
  split at h
  ·rename_i hb
   rw [hb] at ho
   exact wp_cond_true ho.inv_bool (ih1 p1 s s' x g w a Q hp1 h hr hq)
  ·rename_i hb
   rw [hb] at ho
   exact wp_cond_false ho.inv_bool (ih2 p2 s s' x g w a Q hp2 h hr hq)
  ·cases h
 | block id c ih =>
  intro pc s s' x g w a Q hp h hr hq
  simp only [compile] at hp
  split at hp
  ·exact mloop_sound hc hcall hp h hr hq
  cases hp1 : compile m c with
  | none => simp [hp1] at hp
  | some p1 =>
   simp [hp1] at hp; subst hp
   simp only [evCode] at h
   split at h
   ·rename_i i s1 h1
    injection h with h; injection h with h2 h3; subst h3
    refine wp_block (ih p1 s s1 (.exit i) g w a _ hp1 h1 hr ?_)
    intro g1 w1 a1 r1 e1 l1
    have := hq g1 w1 a1 r1 e1 l1
    rw [← h2] at this
    show (if i = id then Q .normal a1 w1 else Q (.exit i) a1 w1)
    split
    ·rename_i hi; rw [if_pos hi] at this; exact this
    ·rename_i hi; rw [if_neg hi] at this; exact this
   ·rename_i hne
    refine wp_block (ih p1 s s' x g w a _ hp1 h hr ?_)
    intro g1 w1 a1 r1 e1 l1
    have := hq g1 w1 a1 r1 e1 l1
    cases x with
    | normal => exact this
    | exit i => exact absurd h (hne i s')
    | ret => exact this
 | loop c ih =>
  intro pc s s' x g w a Q hp h hr hq
  simp only [compile] at hp
  cases hp1 : compile m c with
  | none => simp [hp1] at hp
  | some p1 =>
   simp [hp1] at hp; subst hp
   simp only [evCode] at h
   exact wp_loop_rounds k (rounds_sound (fun s s' x g w a Q h hr hq => ih p1 s s' x g w a Q hp1 h hr hq) k s s' x g w a h hr hq)
 | exit id =>
  intro pc s s' x g w a Q hp h hr hq
  simp only [compile] at hp; injection hp with hp; subst hp
  simp only [evCode] at h; injection h with h; injection h with h1 h2; subst h1; subst h2
  exact wp_exit (hq g w a hr (Evo.refl _ _ _) (Nat.le_refl _))
 | ret =>
  intro pc s s' x g w a Q hp h hr hq
  simp only [compile] at hp; injection hp with hp; subst hp
  simp only [evCode] at h; injection h with h; injection h with h1 h2; subst h1; subst h2
  exact wp_ret (hq g w a hr (Evo.refl _ _ _) (Nat.le_refl _))
 | rangeFunc => intro pc s s' x g w a Q hp; simp [compile] at hp
 | scope c ih => intro pc s s' x g w a Q hp; simp [compile] at hp
 | goto l => intro pc s s' x g w a Q hp; simp [compile] at hp
 | refuse why => intro pc s s' x g w a Q hp; simp [compile] at hp
theorem R.take {S : List SObj} {w : World} {g : G} {base n : Nat} {bd : Nat → Nat} (h : R S w g n (lim base bd n)) (hn : n ≤ S.length) (hb : base ≤ n) (hbd : ∀ id, id < base → bd id ≤ base) :
  R (S.take n) w g base bd := by
 have hl : (S.take n).length = n := by simp; omega
 have get : ∀ (id : Nat) (o : SObj), (S.take n)[id]? = some o → S[id]? = some o ∧ id < n := by
  intro id o ho
  rw [List.getElem?_take] at ho
  split at ho
  ·rename_i hi; exact ⟨ho, hi⟩
  ·cases ho
 refine ⟨by omega, hbd, h.hfix, h.hpp, fun id o ho => ?_, fun i j o p hi hj => h.inj i j o p (get i o hi).1 (get j p hj).1⟩
 obtain ⟨h1, h2⟩ := get id o ho
 have := h.live id o h1
 rw [hl]
 unfold lim at this
 rw [if_pos h2] at this
 exact this
theorem V.bound0 {g : G} {w : World} {n m : Nat} {x : PV} {v : Value} (h : V g w n x v) (hc : x.clean = true) : V g w m x v := (h.clean hc).mono (Nat.zero_le _)
def resF (tmps : Array Value) : ResultVar → Sem Value
 | .tmp t => pure (tmps.getD t undef)
 | .cell a t => do loadVar t (← asAddr (tmps.getD a undef))
theorem results_eq (fn : Func) (tmps : Array Value) : results fn tmps = (do
  let vs ← fn.results.mapM (resF tmps)
  pure (if h : vs.size = 1 then vs[0] else .tuple vs)) := rfl
theorem resultsOf_sound (hc : CtxTy P ctx) {S : List SObj} {g : G} {w : World} {base : Nat} {σ : Nat → PV} {a : Act} (hR : R S w g base bd) (hs : Slots g w S.length σ a.tmps) : ∀ (rs : List ResultVar) (vs : List PV), resultsOf ctx S σ rs = some vs →
  ∃ us : List Value, (rs.mapM (resF a.tmps)).run P w = .ok us w ∧ us.length = vs.length ∧ ∀ (i : Nat) (c : PV), vs[i]? = some c → V g w S.length c (us.getD i undef)
 | [], vs, h => by
  simp [resultsOf] at h; subst h
  exact ⟨[], by simp, rfl, fun i c hi => by simp at hi⟩
 | r :: rs, vs, h => by
  simp only [resultsOf] at h
  split at h
  case h_2 => cases h
  rename_i x xs hx hxs
  injection h with h; subst h
  obtain ⟨us, h1, h2, h3⟩ := resultsOf_sound hc hR hs rs xs hxs
  have key : ∃ u, (resF a.tmps r).run P w = .ok u w ∧ V g w S.length x u := by
   cases r with
   | tmp t =>
    simp only [resultOf] at hx
    injection hx with hx; subst hx
    exact ⟨_, rfl, hs t⟩
   | cell ad t =>
    simp only [resultOf] at hx
    obtain ⟨v, k1, k2⟩ := step_load (P := P) (p := .tmp ad) hc hR hs hx
    refine ⟨v, ?_, k2⟩
    have hv := hs ad
    simp only [Act.eval] at k1
    simp only [resF]
    cases hsa : σ ad <;> rw [hsa] at hx <;> simp only [loadPV] at hx <;> try (cases hx; done)
    ·rw [hsa] at hv
     have he := hv.inv_ptr.1
     rw [he] at k1 ⊢
     simpa [Instr.loadAt, Instr.sureAddr, asAddr] using k1
    ·rw [hsa] at hv
     obtain ⟨b, o, u, he, _⟩ := hv.inv_iptr
     rw [he] at k1 ⊢
     simpa [Instr.loadAt, Instr.sureAddr, asAddr] using k1
  obtain ⟨u, k1, k2⟩ := key
  refine ⟨u :: us, ?_, by simp [h2], fun i c hi => ?_⟩
  ·simp only [List.mapM_cons, Sem.run_bind, k1, Result.andThen_ok, h1, Sem.run_pure]
  ·cases i with
   | zero => simp at hi; subst hi; exact k2
   | succ i => simpa using h3 i c (by simpa using hi)
def one (us : List Value) : Value := match us with
 | [u] => u
 | us => .tuple us.toArray
theorem results_run {fn : Func} {tmps : Array Value} {w : World} {us : List Value} (h : (fn.results.toList.mapM (resF tmps)).run P w = .ok us w) : (results fn tmps).run P w = .ok (one us) w := by
 rw [results_eq, Array.mapM_eq_mapM_toList]
 simp only [Sem.run_bind, Sem.run_map, h, Result.andThen_ok, Sem.run_pure]
 congr 1
 match us with
 | [] => rfl
 | [u] => rfl
 | u :: v :: us => simp [one]
theorem one_sound {g : G} {w : World} {n : Nat} {vs : List PV} {us : List Value} (hl : us.length = vs.length) (h : ∀ (i : Nat) (c : PV), vs[i]? = some c → V g w n c (us.getD i undef)) : V g w n (tupled vs) (one us) := by
 have tup : V g w n (.tup vs) (.tuple us.toArray) := .tup vs _ (by simpa using hl.symm) (fun i c hi => by rw [← getD_toList]; exact h i c hi)
 match vs, us, hl with
 | [], [], _ => exact tup
 | [x], [u], _ => simpa [tupled, one] using h 0 x rfl
 | x :: y :: vs, u :: v :: us, _ => exact tup
theorem R.rebase {S : List SObj} {w : World} {g : G} {base n : Nat} {bd : Nat → Nat} {e : Bool} (h : R S w g (if e then 0 else n) (lim base bd n)) (hn : n ≤ S.length) (hb : base ≤ n) (hbd : ∀ id, id < base → bd id ≤ base) :
  R S w g (if e then 0 else base) bd := by
 cases e with
 | true =>
  simp only [if_true] at h ⊢
  refine ⟨Nat.zero_le _, fun id hi => by omega, h.hfix, h.hpp, fun id o ho => ?_, h.inj⟩
  have := h.live id o ho
  unfold lim at this ⊢
  rw [if_neg (by omega)] at this ⊢
  exact this
 | false =>
  simp only [Bool.false_eq_true, if_false] at h ⊢
  refine ⟨by omega, hbd, h.hfix, h.hpp, fun id o ho => ?_, h.inj⟩
  have := h.live id o ho
  refine this.mono ?_
  unfold lim
  split
  ·split
   ·exact Nat.le_refl _
   ·omega
  ·rw [if_neg (by omega)]
   exact Nat.le_refl _
def IntrOk (P : Program) (env : Env) : Prop :=
 ∀ f h, env.intr f = some h → ∀ (args : List PV) (S : List SObj) (v : PV) (S' : List SObj) (e : Bool), h args S = some (v, S', e) →
  ∀ (w : World) (g : G) (base : Nat) (bd : Nat → Nat) (cargs : Array Value), R S w g base bd → Gl env.ctx w g → args.length = cargs.size → (∀ (i : Nat) (c : PV), args[i]? = some c → V g w S.length c (cargs.getD i undef)) →
   (∃ fn, P.funcs[f]? = some fn ∧ fn.body.isNone = false ∧ fn.name ≠ "runtime.NumGoroutine") ∧
   Calls P f cargs w (fun en w' => ∃ rv, en = .returned rv ∧ Good base bd S g w v S' e rv w')
structure EnvOk (P : Program) (env : Env) : Prop where
 ty : CtxTy P env.ctx
 fns : ∀ f pf, env.fn f = some pf → FnOk P f pf
 intr : IntrOk P env
 mixed : P.follows .mixedOrders = true
theorem runBody_sound {env : Env} (hc : EnvOk P env) {k : Nat} (hcall : CallOk P env.ctx (ev env k)) {f : FuncId} {pf : PFn} (hpf : env.fn f = some pf) {args : List PV} (hle : args.length ≤ pf.ntmps) {S : List SObj} {v : PV} {S' : List SObj} {e : Bool}
  (h : runBody env.ctx (ev env k) k pf args S = some (v, S', e)) {w : World} {g : G} {base : Nat} {bd : Nat → Nat} {cargs : Array Value} (hR : R S w g base bd) (hgl : Gl env.ctx w g) (hlen : args.length = cargs.size)
  (hargs : ∀ (i : Nat) (c : PV), args[i]? = some c → V g w S.length c (cargs.getD i undef)) :
  (∃ fn, P.funcs[f]? = some fn ∧ fn.body.isNone = false ∧ fn.name ≠ "runtime.NumGoroutine") ∧
  Calls P f cargs w (fun en w' => ∃ rv g', en = .returned rv ∧ V g' w' S'.length v rv ∧ R S' w' g' (if e then 0 else S.length) (lim base bd S.length) ∧ Evo S.length g w g' w' ∧ S.length ≤ S'.length) := by
 obtain ⟨fn, cd, mm, f1, f2, f6, f3, f4, f5⟩ := (hc.fns f pf hpf).ok
 refine ⟨⟨fn, f1, by rw [f2]; rfl, f5⟩, ?_⟩
 let s0 : St := (fun i => args.getD i (.tup []), S, false)
 have hr0 : Rel env.ctx ⟨pf.ntmps, S.length⟩ (lim base bd S.length) s0 g w { tmps := cargs ++ Array.replicate (fn.ntmps - cargs.size) undef, defers := [] } := by
  refine ⟨fun i => ?_, by simp; omega, rfl, ?_, hgl⟩
  ·show V g w S.length (args.getD i (.tup [])) _
   rw [List.getD_eq_getElem?_getD, Array.getD_eq_getD_getElem?]
   rcases Nat.lt_or_ge i cargs.size with hi | hi
   ·rw [Array.getElem?_append_left hi, List.getElem?_eq_getElem (by omega), ← Array.getD_eq_getD_getElem?]
    exact hargs i _ (List.getElem?_eq_getElem (by omega))
   ·rw [Array.getElem?_append_right hi, List.getElem?_eq_none (by omega)]
    have : ((Array.replicate (fn.ntmps - cargs.size) undef)[i - cargs.size]?).getD undef = undef := by
     rw [Array.getElem?_replicate]; split <;> rfl
    rw [this]
    exact .tup [] _ rfl (fun i c hi => by simp at hi)
  ·simp only [s0, Bool.false_eq_true, if_false]
   refine ⟨Nat.le_refl _, fun id _ => lim_le hR id, hR.hfix, hR.hpp, fun id o ho => ?_, hR.inj⟩
   have := hR.live id o ho
   have hid := R.lt hR ho
   unfold lim
   rw [if_pos hid]
   exact this
 refine calls_of_wp f1 f2 ?_
 unfold runBody at h
 split at h
 ·cases h
 ·rename_i x σ' S1 e1 hne hev
  split at h
  case h_2 => cases h
  rename_i vs hvs
  refine evCode_sound hc.ty hcall hc.mixed k cd pf.body s0 (σ', S1, e1) x g w _ _ f6 hev hr0 ?_
  intro g1 w1 a1 r1 ev1 l1
  obtain ⟨us, u1, u2, u3⟩ := resultsOf_sound (P := P) hc.ty r1.r r1.slots pf.results vs hvs
  rw [← f4] at u1
  have hres := results_run u1
  have fin : ∃ rv g', Ending.returned (one us) = .returned rv ∧ V g' w1 S'.length v rv ∧ R S' w1 g' (if e then 0 else S.length) (lim base bd S.length) ∧ Evo S.length g w g' w1 ∧ S.length ≤ S'.length := by
   split at h
   ·injection h with h; injection h with h1 h2; injection h2 with h2 h3
    subst h1; subst h2; subst h3
    exact ⟨_, g1, rfl, one_sound u2 u3, r1.r, ev1, l1⟩
   ·injection h with h; injection h with h1 h2; injection h2 with h2 h3
    subst h1; subst h2; subst h3
    obtain ⟨g2, q1, q2, q3⟩ := frzL_sound vs us S1 g1 r1.r u2.symm u3
    obtain ⟨len1, len2⟩ := frzL_len vs S1
    rw [← len1] at q3
    exact ⟨_, g2, rfl, one_sound (u2.trans len2.symm) q3, q1, ev1.trans (q2.mono l1), by rw [len1]; exact l1⟩
  cases x with
  | normal => exact ⟨r1.defers, _, hres, fin⟩
  | exit id => exact absurd rfl (hne id)
  | ret => exact ⟨r1.defers, _, hres, fin⟩
 ·cases h
theorem leave_good {S S1 : List SObj} {w w1 : World} {g g1 : G} {base : Nat} {bd : Nat → Nat} (hR : R S w g base bd) {v v' : PV} {rv : Value} {S' : List SObj} {e e1 : Bool} (hV : V g1 w1 S1.length v rv) (h1 : R S1 w1 g1 (if e1 then 0 else S.length) (lim base bd S.length))
  (ev1 : Evo S.length g w g1 w1) (l1 : S.length ≤ S1.length) (h : leave S.length v S1 e1 = (v', S', e)) : Good base bd S g w v' S' e rv w1 := by
 unfold leave at h
 split at h
 ·rename_i hcl
  injection h with h1' h2; injection h2 with h2 h3
  subst h1'; subst h2; subst h3
  simp only [hcl.1, Bool.false_eq_true, if_false] at h1
  refine ⟨g1, hV.strip.bound0 hcl.2, ?_, ev1, by simp; omega⟩
  simp only [Bool.false_eq_true, if_false]
  exact h1.take l1 hR.hbase hR.hbd
 ·injection h with h1' h2; injection h2 with h2 h3
  subst h1'; subst h2; subst h3
  exact ⟨g1, hV, h1.rebase l1 hR.hbase hR.hbd, ev1, l1⟩
theorem ev_sound {env : Env} (hc : EnvOk P env) : ∀ k, CallOk P env.ctx (ev env k)
 | 0 => fun f args S v S' e h => by simp [ev] at h
 | k + 1 => by
  intro f args S v S' e h w g base bd cargs hR hgl hlen hargs
  simp only [ev] at h
  split at h
  ·rename_i hf hi
   exact hc.intr f hf hi args S v S' e h w g base bd cargs hR hgl hlen hargs
  split at h
  ·cases h
  rename_i pf hpf
  split at h
  case isFalse => cases h
  rename_i hle
  have general : ∀ (v1 : PV) (S1 : List SObj) (e1 : Bool), runBody env.ctx (ev env k) k pf args S = some (v1, S1, e1) → leave S.length v1 S1 e1 = (v, S', e) →
    (∃ fn, P.funcs[f]? = some fn ∧ fn.body.isNone = false ∧ fn.name ≠ "runtime.NumGoroutine") ∧ Calls P f cargs w (fun en w' => ∃ rv, en = .returned rv ∧ Good base bd S g w v S' e rv w') := by
   intro v1 S1 e1 hb hl
   obtain ⟨r1, r2⟩ := runBody_sound hc (ev_sound hc k) hpf hle hb hR hgl hlen hargs
   refine ⟨r1, r2.mono ?_⟩
   rintro en w' ⟨rv, g', rfl, q1, q2, q3, q4⟩
   exact ⟨rv, rfl, leave_good hR q1 q2 q3 q4 hl⟩
  split at h
  ·rename_i hcl
   split at h
   case h_2 => cases h
   rename_i v1 S1 e1 hb
   split at h
   ·rename_i hvc
    injection h with h; injection h with h1 h2; injection h2 with h2 h3
    subst h1; subst h2; subst h3
    have hR0 : R [] w { g with fix := fun k => k < w.heap.size } 0 (fun _ => 0) :=
     ⟨Nat.le_refl _, fun _ _ => Nat.le_refl _, fun _ hk => hk, hR.hpp, fun id o ho => by simp at ho, fun i j o p ho => by simp at ho⟩
    obtain ⟨r1, r2⟩ := runBody_sound hc (ev_sound hc k) hpf (by simpa using hle) hb hR0 hgl.all (by simpa using hlen) (fun i c hi => by
     have hcm := cleanL_mem hcl hi
     rw [List.getElem?_map] at hi
     cases hi' : args[i]? with
     | none => rw [hi'] at hi; cases hi
     | some d => rw [hi'] at hi; injection hi with hi; subst hi; exact ((hargs i d hi').strip.clean hcm).ghost rfl)
    refine ⟨r1, r2.mono ?_⟩
    rintro en w' ⟨rv, g', rfl, q1, q2, q3, q4⟩
    exact ⟨rv, rfl, behind_pure hR q2 q3 (q1.strip.clean hvc)⟩
   ·split at h
    case h_2 => cases h
    rename_i v2 S2 e2 hb2
    injection h with h
    exact general v2 S2 e2 hb2 h
  ·split at h
   case h_2 => cases h
   rename_i v2 S2 e2 hb2
   injection h with h
   exact general v2 S2 e2 hb2 h
end
end Go.Pam
namespace Go.Pam
theorem TyOk.mk2 {P : Program} {t : TypeId} {und : TypeDesc} {size bytes : Nat} {zp : PV} {eqok comp : Bool} {mets : List Method} {z : Value} {ms : Array Method} (h1 : P.underlying t = some und)
  (h2 : (P.info? t).map (fun i => (i.size, i.bytes, i.zero, i.comparable, i.methods)) = some (size, bytes, some z, comp, ms)) (h3 : absV z = some zp) (h4 : z.cells.size = zp.cells.length)
  (h5 : eqok = true → P.eqGuardType P.depth t = false ∧ P.stoodInHeld t = false) (h6 : ms.toList = mets) :
  TyOk P t { und := und, size := size, bytes := bytes, zero := zp, eqok := eqok, comp := comp, methods := mets } := by
 refine ⟨h1, ?_, h5⟩
 cases hi : P.info? t with
 | none => simp [hi] at h2
 | some i =>
  simp [hi] at h2
  obtain ⟨a1, a2, a3, a4, a5⟩ := h2
  exact ⟨i, z, rfl, a1, a2, a3, h3, h4, a4, by rw [a5]; exact h6⟩
end Go.Pam
namespace Go.Pam
open Classical in
noncomputable def lim' {α : Type} (f : Nat → Option α) : Option α := if h : ∃ r k, ∀ k', k ≤ k' → f k' = some r then some h.choose else none
theorem lim_of {α : Type} {f : Nat → Option α} {r : α} (k : Nat) (h : ∀ k', k ≤ k' → f k' = some r) : lim' f = some r := by
 have hex : ∃ r k, ∀ k', k ≤ k' → f k' = some r := ⟨r, k, h⟩
 unfold lim'
 rw [dif_pos hex]
 obtain ⟨k2, h2⟩ := hex.choose_spec
 have a := h (k + k2) (by omega)
 have b := h2 (k + k2) (by omega)
 rw [a] at b; exact b.symm
theorem of_lim {α : Type} {f : Nat → Option α} {r : α} (h : lim' f = some r) : ∃ k, ∀ k', k ≤ k' → f k' = some r := by
 unfold lim' at h
 split at h
 ·rename_i hex
  injection h with h
  have := hex.choose_spec
  rw [h] at this; exact this
 ·cases h
noncomputable def loopw (body : St → Option (Ex × St)) (s : St) : Option (Ex × St) := lim' fun k => rounds body k s
theorem rounds_mono {body : St → Option (Ex × St)} : ∀ {k : Nat} {s : St} {r : Ex × St}, rounds body k s = some r → ∀ k', k ≤ k' → rounds body k' s = some r
 | 0, _, _, h => by cases h
 | k + 1, s, r, h => by
  intro k' hk'
  obtain ⟨j, rfl⟩ : ∃ j, k' = j + 1 := ⟨k' - 1, by omega⟩
  simp only [rounds] at h ⊢
  cases hb : body s with
  | none => rw [hb] at h; cases h
  | some q =>
   rw [hb] at h
   obtain ⟨x, s'⟩ := q
   cases x with
   | normal => exact rounds_mono (k := k) h j (by omega)
   | exit i => exact h
   | ret => exact h
theorem loopw_of {body : St → Option (Ex × St)} {k : Nat} {s : St} {r : Ex × St} (h : rounds body k s = some r) : loopw body s = some r := lim_of k (rounds_mono h)
theorem loopw_more {body : St → Option (Ex × St)} {s s' : St} {r : Ex × St} (h : body s = some (.normal, s')) (h2 : loopw body s' = some r) : loopw body s = some r := by
 obtain ⟨k, hk⟩ := of_lim h2
 refine loopw_of (k := k + 1) ?_
 simp only [rounds, h]
 exact hk k (Nat.le_refl _)
theorem loopw_exit {body : St → Option (Ex × St)} {s s' : St} {i : Nat} (h : body s = some (.exit i, s')) : loopw body s = some (.exit i, s') :=
 loopw_of (k := 1) (by simp only [rounds, h])
theorem loopw_ret {body : St → Option (Ex × St)} {s s' : St} (h : body s = some (.ret, s')) : loopw body s = some (.ret, s') :=
 loopw_of (k := 1) (by simp only [rounds, h])
noncomputable def evw (env : Env) (f : FuncId) (args : List PV) (S : List SObj) : Option (PV × List SObj × Bool) := lim' fun k => ev env k f args S
noncomputable def codeW (ctx : Ctx) (call : Call') (fr : Fr) : PC → St → Option (Ex × St)
 | .skip, s => some (.normal, s)
 | .region ops, s =>
  match evOps ctx call fr ops s.1 s.2.1 s.2.2 with
  | some s' => some (.normal, s')
  | none => none
 | .draw hd tl, s =>
  match evHead ctx call fr s.2.1 hd s.1 with
  | some σ =>
   match evOps ctx call fr tl σ s.2.1 s.2.2 with
   | some s' => some (.normal, s')
   | none => none
  | none => none
 | .drawC hd tl, s =>
  match evChain ctx call fr hd [] [] s.1 s.2.1 s.2.2 with
  | some s1 =>
   match evOps ctx call fr tl s1.1 s1.2.1 s1.2.2 with
   | some s' => some (.normal, s')
   | none => none
  | none => none
 | .seq a b, s =>
  match codeW ctx call fr a s with
  | some (.normal, s') => codeW ctx call fr b s'
  | r => r
 | .cond c a b, s =>
  match opd s.1 c with
  | .bool t => if t then codeW ctx call fr a s else codeW ctx call fr b s
  | _ => none
 | .block id c, s =>
  match codeW ctx call fr c s with
  | some (.exit i, s') => some (if i = id then .normal else .exit i, s')
  | r => r
 | .loop c, s => loopw (codeW ctx call fr c) s
 | .exit id, s => some (.exit id, s)
 | .ret, s => some (.ret, s)
 | .mloop it t1 p2 c keep p6 p7, s =>
  match mview it s with
  | some (_, _, [], es) => (allM (mround ctx call fr it t1 p2 c p6 p7 es.length) (mfin ctx call fr it t1 p2 c es.length) keep es.length (es.length + 1) [] s).map fun r => (.normal, normM keep r)
  | _ => none
theorem stepOp_lim {env : Env} {base : Nat} {σ : Nat → PV} {S : List SObj} {op : Op} {r : PV × List SObj × Bool} (h : evStep env.ctx (evw env) base σ S op = some r) :
  ∃ k, ∀ k', k ≤ k' → evStep env.ctx (ev env k') base σ S op = some r := by
 cases op
 case call c =>
  simp only [evStep] at h ⊢
  unfold callPV at h ⊢
  split at h
  all_goals try exact ⟨0, fun _ _ => h⟩
  ·split at h
   ·exact of_lim h
   ·cases h
  ·split at h
   ·rename_i hm; exact of_lim h
   ·cases h
 case makeMap t r => cases r <;> exact ⟨0, fun _ _ => h⟩
 case next it b => cases b <;> exact ⟨0, fun _ _ => h⟩
 all_goals exact ⟨0, fun _ _ => h⟩
theorem step_lim {env : Env} {base : Nat} {σ : Nat → PV} {S : List SObj} {p : POp} {r : PV × List SObj × Bool} (h : evStepF env.ctx (evw env) base σ S p = some r) :
  ∃ k, ∀ k', k ≤ k' → evStepF env.ctx (ev env k') base σ S p = some r := by
 unfold evStepF at h ⊢
 simp only at h ⊢
 split at h
 ·rename_i hw
  unfold birthF at h ⊢
  split at h
  ·rename_i c hc
   have hp : ∃ k, ∀ k', k ≤ k' → ∀ v, purePV (evw env) (frzT (frzArgs env.ctx σ p.op) σ S).1 c = some v → purePV (ev env k') (frzT (frzArgs env.ctx σ p.op) σ S).1 c = some v := by
    cases hq : purePV (evw env) (frzT (frzArgs env.ctx σ p.op) σ S).1 c with
    | none => exact ⟨0, fun _ _ v hv => by cases hv⟩
    | some u =>
     unfold purePV at hq ⊢
     split at hq
     ·split at hq
      ·split at hq
       ·rename_i hcl
        split at hq
        ·rename_i hcall
         obtain ⟨k, hk⟩ := of_lim hcall
         refine ⟨k, fun k' hk' v hv => ?_⟩
         simp only [hcl, if_true, hk k' hk']
         rw [← hv]; exact hq
        ·cases hq
       ·cases hq
      ·cases hq
     ·cases hq
   obtain ⟨k, hk⟩ := hp
   refine ⟨k, fun k' hk' => ?_⟩
   rw [if_pos hw]
   cases hq : purePV (evw env) (frzT (frzArgs env.ctx σ p.op) σ S).1 c with
   | none => rw [hq] at h; cases h
   | some u =>
    rw [hq] at h
    rw [hk k' hk' u hq]
    exact h
  ·exact ⟨0, fun _ _ => by rw [if_pos hw]; exact h⟩
 ·rename_i hw
  obtain ⟨k, hk⟩ := stepOp_lim h
  exact ⟨k, fun k' hk' => by rw [if_neg hw]; exact hk k' hk'⟩
theorem ops_lim {env : Env} {fr : Fr} : ∀ {l : List POp} {σ : Nat → PV} {S : List SObj} {e : Bool} {r : (Nat → PV) × List SObj × Bool}, evOps env.ctx (evw env) fr l σ S e = some r →
  ∃ k, ∀ k', k ≤ k' → evOps env.ctx (ev env k') fr l σ S e = some r
 | [], σ, S, e, r, h => ⟨0, fun _ _ => h⟩
 | p :: rest, σ, S, e, r, h => by
  simp only [evOps] at h ⊢
  split at h
  case isFalse => cases h
  rename_i hd
  simp only [hd, if_true]
  split at h
  ·cases h
  ·rename_i hw
   obtain ⟨k, hk⟩ := ops_lim h
   exact ⟨k, hk⟩
  ·rename_i hw
   split at h
   ·cases h
   rename_i v S' e' hs
   obtain ⟨k1, h1⟩ := step_lim hs
   obtain ⟨k2, h2⟩ := ops_lim h
   exact ⟨max k1 k2, fun k' hk' => by rw [h1 k' (by omega)]; exact h2 k' (by omega)⟩
theorem head_lim {env : Env} {fr : Fr} {S : List SObj} : ∀ {l : List POp} {σ : Nat → PV} {r : Nat → PV}, evHead env.ctx (evw env) fr S l σ = some r →
  ∃ k, ∀ k', k ≤ k' → evHead env.ctx (ev env k') fr S l σ = some r
 | [], σ, r, h => ⟨0, fun _ _ => h⟩
 | p :: rest, σ, r, h => by
  simp only [evHead] at h ⊢
  split at h
  case isFalse => cases h
  rename_i hd
  simp only [hd, if_true]
  split at h
  ·cases h
  ·rename_i hw
   obtain ⟨k, hk⟩ := head_lim h
   exact ⟨k, hk⟩
  ·rename_i hw
   split at h
   ·cases h
   rename_i v S' e' hs
   split at h
   case isFalse => cases h
   rename_i hsame
   obtain ⟨k1, h1⟩ := step_lim hs
   obtain ⟨k2, h2⟩ := head_lim h
   refine ⟨max k1 k2, fun k' hk' => ?_⟩
   rw [h1 k' (by omega)]
   simp only [hsame, if_true]
   exact h2 k' (by omega)
theorem chain_lim {env : Env} {fr : Fr} : ∀ {l : List POp} {hist : List (List SObj)} {pend : List (TypeId × PV × PV)} {σ : Nat → PV} {S : List SObj} {e : Bool} {r : (Nat → PV) × List SObj × Bool}, evChain env.ctx (evw env) fr l hist pend σ S e = some r →
  ∃ k, ∀ k', k ≤ k' → evChain env.ctx (ev env k') fr l hist pend σ S e = some r
 | [], _, _, σ, S, e, r, h => ⟨0, fun _ _ => h⟩
 | p :: rest, hist, pend, σ, S, e, r, h => by
  simp only [evChain] at h ⊢
  split at h
  case isFalse => cases h
  rename_i hd
  simp only [hd, if_true]
  split at h
  ·cases h
  ·rename_i hw
   obtain ⟨k, hk⟩ := chain_lim h
   exact ⟨k, hk⟩
  ·rename_i hw
   split at h
   ·cases h
   rename_i v S' e' hs
   obtain ⟨k1, h1⟩ := step_lim hs
   split at h
   ·rename_i hch
    split at h
    case isFalse => cases h
    rename_i hp
    obtain ⟨k2, h2⟩ := chain_lim h
    refine ⟨max k1 k2, fun k' hk' => ?_⟩
    rw [h1 k' (by omega)]
    simp only [hch, if_true, if_pos hp]
    exact h2 k' (by omega)
   ·rename_i hch
    split at h
    case isFalse => cases h
    rename_i hsame
    split at h
    ·rename_i hin
     obtain ⟨k2, h2⟩ := chain_lim h
     refine ⟨max k1 k2, fun k' hk' => ?_⟩
     rw [h1 k' (by omega)]
     simp only [if_neg hch, hsame, hin, if_true]
     exact h2 k' (by omega)
    ·rename_i hin
     split at h
     case h_2 => cases h
     rename_i t a hlo
     split at h
     case isFalse => cases h
     rename_i hall
     obtain ⟨k2, h2⟩ := chain_lim h
     refine ⟨max k1 k2, fun k' hk' => ?_⟩
     rw [h1 k' (by omega)]
     simp only [if_neg hch, hsame, if_true, if_neg hin, hlo, if_pos hall]
     exact h2 k' (by omega)
theorem rounds_lim {body : St → Option (Ex × St)} {bk : Nat → St → Option (Ex × St)} (hb : ∀ s r, body s = some r → ∃ k, ∀ k', k ≤ k' → bk k' s = some r) :
  ∀ {n : Nat} {s : St} {r : Ex × St}, rounds body n s = some r → ∃ k, ∀ k', k ≤ k' → ∀ m, n ≤ m → rounds (bk k') m s = some r
 | 0, _, _, h => by cases h
 | n + 1, s, r, h => by
  simp only [rounds] at h
  cases hs : body s with
  | none => rw [hs] at h; cases h
  | some q =>
   obtain ⟨k1, h1⟩ := hb s q hs
   rw [hs] at h
   obtain ⟨x, s'⟩ := q
   cases x with
   | normal =>
    obtain ⟨k2, h2⟩ := rounds_lim hb (n := n) h
    refine ⟨max k1 k2, fun k' hk' m hm => ?_⟩
    obtain ⟨j, rfl⟩ : ∃ j, m = j + 1 := ⟨m - 1, by omega⟩
    simp only [rounds, h1 k' (by omega)]
    exact h2 k' (by omega) j (by omega)
   | exit i =>
    refine ⟨k1, fun k' hk' m hm => ?_⟩
    obtain ⟨j, rfl⟩ : ∃ j, m = j + 1 := ⟨m - 1, by omega⟩
    simp only [rounds, h1 k' hk']
    exact h
   | ret =>
    refine ⟨k1, fun k' hk' m hm => ?_⟩
    obtain ⟨j, rfl⟩ : ∃ j, m = j + 1 := ⟨m - 1, by omega⟩
    simp only [rounds, h1 k' hk']
    exact h
theorem mround_lim {env : Env} {fr : Fr} {it t1 : Nat} {p2 : List POp} {c : Operand} {p6 p7 : List POp} {n : Nat} {seen : List Nat} {j : Nat} {s r : St} (h : mround env.ctx (evw env) fr it t1 p2 c p6 p7 n seen j s = some r) :
  ∃ k, ∀ k', k ≤ k' → mround env.ctx (ev env k') fr it t1 p2 c p6 p7 n seen j s = some r := by
 unfold mround at h ⊢
 split at h
 case h_2 => cases h
 split at h
 case isFalse => cases h
 rename_i hc
 split at h
 case h_2 => cases h
 split at h
 case h_2 => cases h
 rename_i s1 h1
 split at h
 case h_2 => cases h
 rename_i ho
 split at h
 case h_2 => cases h
 rename_i s2 h2
 obtain ⟨k1, q1⟩ := ops_lim h1
 obtain ⟨k2, q2⟩ := ops_lim h2
 obtain ⟨k3, q3⟩ := ops_lim h
 refine ⟨max k1 (max k2 k3), fun k' hk' => ?_⟩
 simp only [if_pos hc, q1 k' (by omega), ho, q2 k' (by omega), q3 k' (by omega)]
theorem mfin_lim {env : Env} {fr : Fr} {it t1 : Nat} {p2 : List POp} {c : Operand} {n : Nat} {seen : List Nat} {s r : St} (h : mfin env.ctx (evw env) fr it t1 p2 c n seen s = some r) :
  ∃ k, ∀ k', k ≤ k' → mfin env.ctx (ev env k') fr it t1 p2 c n seen s = some r := by
 unfold mfin at h ⊢
 split at h
 case h_2 => cases h
 split at h
 case isFalse => cases h
 rename_i hc
 split at h
 case h_2 => cases h
 rename_i s1 h1
 obtain ⟨k1, q1⟩ := ops_lim h1
 exact ⟨k1, fun k' hk' => by simp only [if_pos hc, q1 k' hk']; exact h⟩
theorem all_lim {α : Type} {f : α → Bool} {fk : Nat → α → Bool} (hf : ∀ x, f x = true → ∃ k, ∀ k', k ≤ k' → fk k' x = true) : ∀ (l : List α), l.all f = true → ∃ k, ∀ k', k ≤ k' → l.all (fk k') = true
 | [], _ => ⟨0, fun _ _ => rfl⟩
 | x :: l, h => by
  rw [List.all_cons, Bool.and_eq_true] at h
  obtain ⟨k1, h1⟩ := hf x h.1
  obtain ⟨k2, h2⟩ := all_lim hf l h.2
  exact ⟨max k1 k2, fun k' hk' => by rw [List.all_cons, h1 k' (by omega), h2 k' (by omega)]; rfl⟩
theorem allM_lim {step : List Nat → Nat → St → Option St} {fin : List Nat → St → Option St} {stk : Nat → List Nat → Nat → St → Option St} {fik : Nat → List Nat → St → Option St} {keep : List Nat} {n : Nat}
  (hs : ∀ seen j s r, step seen j s = some r → ∃ k, ∀ k', k ≤ k' → stk k' seen j s = some r) (hf : ∀ seen s r, fin seen s = some r → ∃ k, ∀ k', k ≤ k' → fik k' seen s = some r) :
  ∀ (q : Nat) (seen : List Nat) (s r : St), allM step fin keep n q seen s = some r → ∃ k, ∀ k', k ≤ k' → allM (stk k') (fik k') keep n q seen s = some r
 | 0, _, _, _, h => by simp [allM] at h
 | q + 1, seen, s, r, h => by
  have bnd : ∀ (j : Nat) (r : St), (step seen j s).bind (allM step fin keep n q (seen ++ [j])) = some r → ∃ k, ∀ k', k ≤ k' → (stk k' seen j s).bind (allM (stk k') (fik k') keep n q (seen ++ [j])) = some r := by
   intro j r hb
   obtain ⟨s1, h1, h2⟩ := Option.bind_eq_some_iff.1 hb
   obtain ⟨k1, q1⟩ := hs _ _ _ _ h1
   obtain ⟨k2, q2⟩ := allM_lim hs hf q (seen ++ [j]) s1 r h2
   exact ⟨max k1 k2, fun k' hk' => by rw [q1 k' (by omega), Option.bind_some]; exact q2 k' (by omega)⟩
  simp only [allM] at h ⊢
  split at h
  ·obtain ⟨k, hk⟩ := hf _ _ _ h
   exact ⟨k, hk⟩
  ·rename_i j0 js hj
   split at h
   ·cases h
   rename_i r0 hr0
   split at h
   case isFalse => cases h
   rename_i hall
   obtain ⟨k1, q1⟩ := bnd j0 r0 hr0
   obtain ⟨k2, q2⟩ := all_lim (fk := fun k' j => agree keep r0 ((stk k' seen j s).bind (allM (stk k') (fik k') keep n q (seen ++ [j])))) (fun j hj => by
    unfold agree at hj
    split at hj
    case h_2 => cases hj
    rename_i r' hr'
    obtain ⟨k, hk⟩ := bnd j r' hr'
    exact ⟨k, fun k' hk' => by simp only [hk k' hk']; unfold agree; exact hj⟩) js hall
   refine ⟨max k1 k2, fun k' hk' => ?_⟩
   simp only [q1 k' (by omega)]
   rw [if_pos (q2 k' (by omega))]
   exact h
theorem code_lim {env : Env} {fr : Fr} : ∀ (c : PC) (s : St) (r : Ex × St), codeW env.ctx (evw env) fr c s = some r →
  ∃ k, ∀ k', k ≤ k' → evCode env.ctx (ev env k') fr k' c s = some r
 | .skip, _, _, h => ⟨0, fun _ _ => h⟩
 | .region ops, s, r, h => by
  simp only [codeW] at h
  split at h
  ·rename_i s' hs
   obtain ⟨k, hk⟩ := ops_lim hs
   exact ⟨k, fun k' hk' => by simp only [evCode, hk k' hk']; exact h⟩
  ·cases h
 | .draw hd tl, s, r, h => by
  simp only [codeW] at h
  split at h
  case h_2 => cases h
  rename_i σ hσ
  split at h
  case h_2 => cases h
  rename_i s' hs
  obtain ⟨k1, h1⟩ := head_lim hσ
  obtain ⟨k2, h2⟩ := ops_lim hs
  exact ⟨max k1 k2, fun k' hk' => by simp only [evCode, h1 k' (by omega), h2 k' (by omega)]; exact h⟩
 | .drawC hd tl, s, r, h => by
  simp only [codeW] at h
  split at h
  case h_2 => cases h
  rename_i s1 hσ
  split at h
  case h_2 => cases h
  rename_i s' hs
  obtain ⟨k1, h1⟩ := chain_lim hσ
  obtain ⟨k2, h2⟩ := ops_lim hs
  exact ⟨max k1 k2, fun k' hk' => by simp only [evCode, h1 k' (by omega), h2 k' (by omega)]; exact h⟩
 | .seq a b, s, r, h => by
  simp only [codeW] at h
  split at h
  ·rename_i s' hs
   obtain ⟨k1, h1⟩ := code_lim a s _ hs
   obtain ⟨k2, h2⟩ := code_lim b s' _ h
   exact ⟨max k1 k2, fun k' hk' => by simp only [evCode, h1 k' (by omega), h2 k' (by omega)]⟩
  ·rename_i hne
   obtain ⟨k1, h1⟩ := code_lim a s _ h
   refine ⟨k1, fun k' hk' => ?_⟩
   simp only [evCode, h1 k' hk']
   obtain ⟨x, s'⟩ := r
   cases x with
   | normal => exact absurd h (hne _)
   | exit i => rfl
   | ret => rfl
 | .cond c a b, s, r, h => by
  simp only [codeW] at h
  split at h
  ·rename_i t ht
   cases t with
   | true =>
    obtain ⟨k, hk⟩ := code_lim a s r h
    exact ⟨k, fun k' hk' => by simp only [evCode, ht]; exact hk k' hk'⟩
   | false =>
    obtain ⟨k, hk⟩ := code_lim b s r h
    exact ⟨k, fun k' hk' => by simp only [evCode, ht]; exact hk k' hk'⟩
  ·cases h
 | .block id c, s, r, h => by
  simp only [codeW] at h
  split at h
  ·rename_i i s' hs
   obtain ⟨k1, h1⟩ := code_lim c s _ hs
   exact ⟨k1, fun k' hk' => by simp only [evCode, h1 k' hk']; exact h⟩
  ·rename_i hne
   obtain ⟨k1, h1⟩ := code_lim c s _ h
   refine ⟨k1, fun k' hk' => ?_⟩
   simp only [evCode, h1 k' hk']
   obtain ⟨x, s'⟩ := r
   cases x with
   | normal => rfl
   | exit i => exact absurd h (hne _ _)
   | ret => rfl
 | .loop c, s, r, h => by
  simp only [codeW] at h
  obtain ⟨n, hn⟩ := of_lim h
  obtain ⟨k, hk⟩ := rounds_lim (bk := fun k' => evCode env.ctx (ev env k') fr k' c) (fun s r hs => code_lim c s r hs) (hn n (Nat.le_refl _))
  exact ⟨max k n, fun k' hk' => by simp only [evCode]; exact hk k' (by omega) k' (by omega)⟩
 | .exit id, _, _, h => ⟨0, fun _ _ => h⟩
 | .ret, _, _, h => ⟨0, fun _ _ => h⟩
 | .mloop it t1 p2 c keep p6 p7, s, r, h => by
  simp only [codeW] at h
  split at h
  case h_2 => cases h
  rename_i i0 id0 es0 hv
  obtain ⟨r0, h0, h1⟩ := Option.map_eq_some_iff.1 h
  obtain ⟨k, hk⟩ := allM_lim (stk := fun k' => mround env.ctx (ev env k') fr it t1 p2 c p6 p7 es0.length) (fik := fun k' => mfin env.ctx (ev env k') fr it t1 p2 c es0.length) (fun _ _ _ _ h => mround_lim h) (fun _ _ _ h => mfin_lim h) _ _ _ _ h0
  refine ⟨k, fun k' hk' => ?_⟩
  simp only [evCode, hv, hk k' hk', Option.map_some]
  exact congrArg some h1
noncomputable def bodyW (ctx : Ctx) (call : Call') (pf : PFn) (args : List PV) (S : List SObj) : Option (PV × List SObj × Bool) :=
 match codeW ctx call ⟨pf.ntmps, S.length⟩ pf.body (fun i => args.getD i (.tup []), S, false) with
 | some (.exit _, _) => none
 | some (_, (σ, S', e)) =>
  match resultsOf ctx S' σ pf.results with
  | some vs => if pf.raw then some (tupled vs, S', e) else some (tupled (frzL vs S').1, (frzL vs S').2, e)
  | none => none
 | none => none
theorem body_lim {env : Env} {pf : PFn} {args : List PV} {S : List SObj} {r : PV × List SObj × Bool} (h : bodyW env.ctx (evw env) pf args S = some r) :
  ∃ k, ∀ k', k ≤ k' → runBody env.ctx (ev env k') k' pf args S = some r := by
 unfold bodyW at h
 split at h
 ·cases h
 ·rename_i x σ S' e hne hs
  obtain ⟨k, hk⟩ := code_lim _ _ _ hs
  refine ⟨k, fun k' hk' => ?_⟩
  unfold runBody
  rw [hk k' hk']
  cases x with
  | normal => exact h
  | exit i => exact absurd rfl (hne i)
  | ret => exact h
 ·cases h
def Known (l : List (Nat × PV)) (σ : Nat → PV) : Prop := ∀ p ∈ l, σ p.1 = p.2
def put : List (Nat × PV) → (Nat → PV) → Nat → PV
 | [], σ => σ
 | p :: l, σ => fun i => if i = p.1 then p.2 else put l σ i
theorem put_known {σ : Nat → PV} : ∀ {l : List (Nat × PV)}, Known l σ → put l σ = σ
 | [], _ => rfl
 | p :: l, h => by
  funext i
  simp only [put, put_known (fun q hq => h q (List.mem_cons_of_mem _ hq))]
  split
  ·rename_i he; rw [he]; exact (h p List.mem_cons_self).symm
  ·rfl
theorem known_nil {σ : Nat → PV} : Known [] σ := fun p hp => by cases hp
theorem known_cons {σ : Nat → PV} {i : Nat} {v : PV} {l : List (Nat × PV)} (h : σ i = v) (hl : Known l σ) : Known ((i, v) :: l) σ := fun p hp => by
 rcases List.mem_cons.1 hp with rfl | hp
 ·exact h
 ·exact hl p hp
theorem evw_of {env : Env} {f : FuncId} {args : List PV} {S : List SObj} {r : PV × List SObj × Bool} (h : evw env f args S = some r) : ∃ k, ev env k f args S = some r := by
 obtain ⟨k, hk⟩ := of_lim h
 exact ⟨k, hk k (Nat.le_refl _)⟩
abbrev KV := PV → List SObj → Bool → Prop
abbrev KS := (Nat → PV) → List SObj → Bool → Prop
theorem sameKV_refl : ∀ (x : List (PV × PV)), sameKV x x = true
 | [] => rfl
 | x :: xs => by simp [sameKV, PV.same_refl, sameKV_refl xs]
theorem sameS_refl : ∀ (S : List SObj), sameS S S = true
 | [] => rfl
 | x :: xs => by
  simp only [sameS, sameS_refl xs, Bool.and_true]
  cases x <;> simp [SObj.same, sameL_refl, sameKV_refl]
def eqBF (ctx : Ctx) (eq : TypeId → PV → PV → Option Bool) : List Field → List PV → List PV → Option Bool
 | [], _, _ => some true
 | f :: fs, xs, ys =>
  if f.name = "_" then eqBF ctx eq fs xs ys else
   match partOf ctx f.type xs f.offset, partOf ctx f.type ys f.offset with
   | some a, some b =>
    match eq f.type a b, eqBF ctx eq fs xs ys with
    | some p, some q => some (p && q)
    | _, _ => none
   | _, _ => none
def eqB (ctx : Ctx) : Nat → TypeId → PV → PV → Option Bool
 | 0, _, _, _ => none
 | d + 1, t, x, y =>
  match ctx.ty t with
  | none => none
  | some ti =>
   match ti.und, x, y with
   | .struct fields, .agg xs, .agg ys => if ti.eqok then eqBF ctx (eqB ctx d) fields.toList xs ys else none
   | _, x, y => eqIn ctx (d + 1) t x y
theorem eqBF_ok (ctx : Ctx) {e1 e2 : TypeId → PV → PV → Option Bool} (h12 : ∀ t x y b, e1 t x y = some b → e2 t x y = some b) : ∀ (fs : List Field) (xs ys : List PV) (b : Bool), eqBF ctx e1 fs xs ys = some b → eqFields ctx e2 fs xs ys = some b
 | [], xs, ys, b, h => h
 | f :: fs, xs, ys, b, h => by
  unfold eqBF at h
  unfold eqFields
  by_cases hf : f.name = "_"
  ·rw [if_pos hf] at h ⊢
   exact eqBF_ok ctx h12 fs xs ys b h
  ·rw [if_neg hf] at h ⊢
   split at h
   ·rename_i a c ha hc
    split at h
    ·rename_i p q hp hq
     injection h with h; subst h
     have h1 := h12 _ _ _ _ hp
     have h2 := eqBF_ok ctx h12 fs xs ys _ hq
     simp only [ha, hc, h1]
     cases p
     ·rfl
     ·simpa using h2
    ·cases h
   ·cases h
theorem eqB_ok (ctx : Ctx) : ∀ (d : Nat) (t : TypeId) (x y : PV) (b : Bool), eqB ctx d t x y = some b → eqIn ctx d t x y = some b
 | 0, _, _, _, _, h => by simp [eqB] at h
 | d + 1, t, x, y, b, h => by
  unfold eqB at h
  cases ht : ctx.ty t with
  | none => rw [ht] at h; cases h
  | some ti =>
   rw [ht] at h
   simp only at h
   split at h
   ·rename_i fields xs ys hu
    split at h
    case isFalse => cases h
    rename_i he
    unfold eqIn
    simp only [ht, hu, he, if_true]
    exact eqBF_ok ctx (eqB_ok ctx d) _ _ _ _ h
   ·exact h
end Go.Pam
namespace Go.Pam
open Go.RowKit
def ppOf (w : World) (b : Nat) : Nat := match w.heap[b]? with
 | some (.cells cur _ _) => cur.size
 | _ => 0
def g0 (w : World) : G := { pp := ppOf w, loc := fun _ => 0, hw := fun _ => 0, tsz := fun _ => 0, obj := fun _ => false, fix := fun k => k < w.heap.size }
theorem r0 (w : World) : R [] w (g0 w) 0 (fun _ => 0) :=
 ⟨Nat.le_refl _, fun _ _ => Nat.le_refl _, fun _ hk => hk, fun b hb => by
  show ppOf w b = 0
  unfold ppOf
  rw [Array.getElem?_eq_none hb], fun id o ho => by simp at ho, fun i j o p ho => by simp at ho⟩
theorem walk_of {P : Program} {env : Env} (hc : EnvOk P env) {f : FuncId} {args : List PV} {cargs : Array Value} {w : World} {v : PV} {S' : List SObj} {e : Bool} (h : evw env f args [] = some (v, S', e))
  (hl : args.length = cargs.size) (hV : ∀ (i : Nat) (c : PV), args[i]? = some c → V (g0 w) w 0 c (cargs.getD i undef)) (hz : ∀ p ∈ env.ctx.gls, blk? w p.1 = some p.2.toArray := by intro p hp; cases hp) :
  Calls P f cargs w fun en w' => ∃ rv g', en = .returned rv ∧ V g' w' S'.length v rv ∧ Below w.heap.size w w' := by
 obtain ⟨k, hk⟩ := evw_of h
 obtain ⟨_, hc⟩ := ev_sound hc k f args [] v S' e hk w (g0 w) 0 (fun _ => 0) cargs (r0 w) (fun p hp => ⟨blk_lt (hz p hp), hz p hp⟩) hl hV
 refine hc.mono ?_
 rintro en w' ⟨rv, rfl, g', h1, _, h3, _⟩
 exact ⟨rv, g', rfl, h1, h3.os, h3.tape, h3.output, h3.size, fun k hk => h3.low k hk⟩
theorem walk_true {P : Program} {env : Env} (hc : EnvOk P env) {f : FuncId} {args : List PV} {cargs : Array Value} {w : World} {S' : List SObj} {e : Bool} (h : evw env f args [] = some (.bool true, S', e))
  (hl : args.length = cargs.size) (hV : ∀ (i : Nat) (c : PV), args[i]? = some c → V (g0 w) w 0 c (cargs.getD i undef)) (hz : ∀ p ∈ env.ctx.gls, blk? w p.1 = some p.2.toArray := by intro p hp; cases hp) :
  Calls P f cargs w fun en w' => en = .returned (.bool true) ∧ Below w.heap.size w w' := by
 refine (walk_of hc h hl hV hz).mono ?_
 rintro en w' ⟨rv, g', rfl, h1, h2⟩
 rw [h1.inv_bool]
 exact ⟨rfl, h2⟩
inductive AllV (w : World) : List PV → List Value → Prop
 | nil : AllV w [] []
 | cons {c : PV} {v : Value} {cs : List PV} {vs : List Value} (h : V (g0 w) w 0 c v) (hs : AllV w cs vs) : AllV w (c :: cs) (v :: vs)
theorem hV_list {w : World} {args : List PV} {cargs : List Value} (h : AllV w args cargs) : args.length = cargs.toArray.size ∧ ∀ (i : Nat) (c : PV), args[i]? = some c → V (g0 w) w 0 c (cargs.toArray.getD i undef) := by
 induction h with
 | nil => exact ⟨rfl, fun i c h => by simp at h⟩
 | cons h1 _ ih =>
  refine ⟨by simpa using ih.1, fun i c hi => ?_⟩
  cases i with
  | zero => simp at hi; subst hi; simpa using h1
  | succ i => simpa using ih.2 i c (by simpa using hi)
end Go.Pam
namespace Go.Pam
theorem take_of {S' T : List SObj} (h1 : T.length ≤ S'.length) (h2 : ∀ i, i < T.length → S'[i]? = T[i]?) : S'.take T.length = T := by
 apply List.ext_getElem?
 intro i
 rw [List.getElem?_take]
 by_cases hi : i < T.length
 ·rw [if_pos hi]; exact h2 i hi
 ·rw [if_neg hi, List.getElem?_eq_none (by omega)]
theorem leave_of {S S' T : List SObj} {v v' : PV} {e : Bool} (he : e = false) (hv : v.strip = v') (hc : v'.clean = true) (hn : T.length = S.length) (h1 : S.length ≤ S'.length) (h2 : ∀ i, i < S.length → S'[i]? = T[i]?) :
  leave S.length v S' e = (v', T, false) := by
 unfold leave
 rw [if_pos ⟨he, by rw [hv]; exact hc⟩, hv, ← hn, take_of (by omega) (by rw [hn]; exact h2)]
end Go.Pam
