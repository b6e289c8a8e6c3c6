/- Rows that may be written to: how they are made, and how they become lists. -/
import Derived.Test.YthkjepoaddfoiaaPam13
set_option linter.unusedVariables false
namespace Go.Pam
open Go.RowKit

section
variable {P : Program} {ctx : Ctx} {S : List SObj} {g : G} {w : World} {n : Nat} {base : Nat} {bd : Nat → Nat}

theorem new_row0 (hR : R S w g base bd) {size : Nat} {xs : List PV} {us : Array Value} (hf : Flat g w S.length size xs us.toList) (e : TypeId) :
    Good base bd S g w (.rsl S.length xs.length) (S ++ [.row xs size false]) false (.slice (some ⟨w.heap.size, 0, none⟩) xs.length xs.length) (w.alloc (.cells us e)) :=
  new_row hR hf e (cur := us) (rest := []) (by simp) (by simpa using hf.1) (Nat.le_refl _) (fun v hv => by cases hv) (0, 0) (fun i _ h => by omega)

theorem born_buildSlice (hc : CtxTy P ctx) (hR : R S w g base bd) {t : TypeId} {len : Nat} {ps : List (Nat × PV)} {qs : Array (Nat × Value)} {y : List PV} {e0 : TypeId} {ti0 ei0 : TyI} (hti0 : ctx.ty t = some ti0) (hund0 : ti0.und = .slice e0) (hei0 : ctx.ty e0 = some ei0) (hp : Parts g w S.length ps qs.toList)
    (h : buildSlicePV ctx t len ps = some (.lst y .full)) : ∃ v w', (Instr.buildSlice t len qs).run P w = .ok v w' ∧ Good base bd S g w (.rsl S.length y.length) (S ++ [.row y ei0.size false]) false v w' := by
  unfold buildSlicePV at h
  split at h
  · cases h
  rename_i ti hti
  have ht := hc.ty _ _ hti
  split at h
  case h_2 => cases h
  rename_i e hund
  split at h
  case h_2 => cases h
  rename_i ei hei
  have hte := hc.ty _ _ hei
  split at h
  case isFalse => cases h
  rename_i hn
  obtain ⟨n1, n2, n3, n4⟩ := hn
  cases hs : setParts ei.size (List.replicate len ei.zero) ps with
  | none => simp [hs] at h
  | some r =>
    simp [hs] at h; subst h
    rw [hti0] at hti; injection hti with hti; subst hti
    rw [hund0] at hund; injection hund with hund; subst hund
    rw [hei0] at hei; injection hei with hei; subst hei
    obtain ⟨z, z1, z2, z3⟩ := hte.run_zero w
    have hzf := zeros_flat (absV_sound g w S.length z2) n4 n3 n2 len
    obtain ⟨r', r1, r2, r3⟩ := setParts_sound ps qs.toList _ _ r hp hzf hs
    have hrl : r.length = len := by simpa using r3
    refine ⟨.slice (some ⟨w.heap.size, 0, none⟩) len len, w.alloc (.cells r' e0), ?_, ?_⟩
    · simp only [Instr.buildSlice, Sem.run_bind, ht.run_und, hund0, Result.andThen_ok, hte.run_size]
      rw [if_neg (by omega)]
      by_cases h0 : len * ei0.size = 0
      · have hsame : ((Array.range (len * ei0.size)).map fun x => (#[] : Array Value)[x % (#[] : Array Value).size]!) = ((Array.range (len * ei0.size)).map (z.cells[· % z.cells.size]!)) :=
          Array.ext (by simp) (fun i h1 _ => by simp [h0] at h1)
        simp only [h0, if_true, Sem.run_bind, Sem.run_pure, Result.andThen_ok]
        rw [h0] at hsame r1
        rw [hsame, r1]
        simp [newRow]
      · simp only [if_neg h0, Sem.run_bind, Sem.run_pure, Result.andThen_ok, z1]
        rw [r1]
        simp [newRow]
    · have := new_row0 hR r2 e0
      rw [hrl] at this ⊢; exact this

theorem born_makeSlice (hc : CtxTy P ctx) (hR : R S w g base bd) {t e : TypeId} {k k' : IntKind} {n m : Int} {ti ei : TyI} {l' c' : Value} (hl : V g w S.length (.int k n) l') (hc' : V g w S.length (.int k' m) c')
    (hti : ctx.ty t = some ti) (hund : ti.und = .slice e) (hei : ctx.ty e = some ei)
    (hn : 0 ≤ n ∧ n ≤ m ∧ ei.bytes * m ≤ 2 ^ 47 ∧ m ≤ 2 ^ 62 ∧ ei.size ≠ 0 ∧ ei.zero.cells.length = ei.size ∧ ei.zero.storable = true) :
    ∃ v w', (Instr.makeSlice t l' c').run P w = .ok v w' ∧ Good base bd S g w (.rsl S.length n.toNat) (S ++ [.row (List.replicate n.toNat ei.zero) ei.size false]) false v w' := by
  have ht := hc.ty _ _ hti
  have hte := hc.ty _ _ hei
  obtain ⟨n1, n2, n3, n4, n5, n6, n7⟩ := hn
  rw [hl.inv_int, hc'.inv_int]
  obtain ⟨z, z1, z2, z3⟩ := hte.run_zero w
  obtain ⟨i, zi, i1, i2, i3, _⟩ := hte.info
  have hzf := zeros_flat (absV_sound g w S.length z2) n7 n6 n5 m.toNat
  have hw : IntKind.i64.wrap n = n := IntWalk.i64_in n (by omega)
  have hwm : IntKind.i64.wrap m = m := IntWalk.i64_in m (by omega)
  refine ⟨.slice (some ⟨w.heap.size, 0, none⟩) n.toNat m.toNat, w.alloc (.cells ((Array.range (m.toNat * ei.size)).map (z.cells[· % z.cells.size]!)) e), ?_, ?_⟩
  · have htl : ¬ ((decide (m < 0) || decide ((ei.bytes : Int) * m > 2 ^ 48)) || decide (n < 0) || decide (n > m)) = true := by
      simp; omega
    simp only [Instr.makeSlice, Sem.run_bind, ht.run_und, hund, Result.andThen_ok, asInt, asIntOf, Sem.run_pure, typeInfo, run_program, i1, i3, hw, hwm]
    rw [if_neg htl]
    simp only [Sem.run_bind, run_askRoom, Result.andThen_ok, hte.run_size]
    by_cases h0 : m.toNat * ei.size = 0
    · have hsame : ((Array.range (m.toNat * ei.size)).map fun x => (#[] : Array Value)[x % (#[] : Array Value).size]!) = ((Array.range (m.toNat * ei.size)).map (z.cells[· % z.cells.size]!)) :=
        Array.ext (by simp) (fun i h1 _ => by simp [h0] at h1)
      simp only [h0, if_true, Sem.run_bind, Sem.run_pure, Result.andThen_ok]
      rw [h0] at hsame
      rw [hsame]
      simp [newRow]
    · simp only [if_neg h0, Sem.run_bind, Sem.run_pure, Result.andThen_ok, z1]
      simp [newRow]
  · have hle : n.toNat ≤ m.toNat := by omega
    have hz2 := zeros_flat (absV_sound g w S.length z2) n7 n6 n5 n.toNat
    have hsz : ((Array.range (m.toNat * ei.size)).map (z.cells[· % z.cells.size]!)).toList = ((Array.range (n.toNat * ei.size)).map (z.cells[· % z.cells.size]!)).toList ++ (((Array.range (m.toNat * ei.size)).map (z.cells[· % z.cells.size]!)).toList.drop (n.toNat * ei.size)) := by
      have hmul : n.toNat * ei.size ≤ m.toNat * ei.size := Nat.mul_le_mul_right _ hle
      have ht : ((Array.range (n.toNat * ei.size)).map (z.cells[· % z.cells.size]!)).toList = ((Array.range (m.toNat * ei.size)).map (z.cells[· % z.cells.size]!)).toList.take (n.toNat * ei.size) := by
        rw [Array.toList_map, Array.toList_map, ← List.map_take, Array.toList_range, Array.toList_range, List.take_range, Nat.min_eq_left hmul]
      rw [ht, List.take_append_drop]
    have hone : ∀ v ∈ ((Array.range (m.toNat * ei.size)).map (z.cells[· % z.cells.size]!)).toList.drop (n.toNat * ei.size), v.oneCell' = true := fun v hv => hzf.2.2.2 v (List.mem_of_mem_drop hv)
    have := new_row (cap := m.toNat) hR hz2 e hsz (by simp) (by simp only [List.length_replicate]; exact hle) hone (0, 0) (fun i _ h => by omega)
    simpa using this

theorem born_conv (hc : CtxTy P ctx) (hR : R S w g base bd) {src dst : TypeId} {x : PV} {xs : List PV} {id : Nat} {x' : Value} {S' : List SObj} (hx : V g w S.length x x') (h : convPV ctx src dst x S = some (.lst xs (.tip id), S')) :
    ∃ v w', (convert src dst x').run P w = .ok v w' ∧ Good base bd S g w (.rsl S.length xs.length) (S ++ [.row xs 1 false]) false v w' := by
  unfold convPV at h
  split at h
  case h_2 => cases h
  rename_i si di hsi hdi
  have hs := hc.ty _ _ hsi
  have hd := hc.ty _ _ hdi
  split at h
  · cases h
  · cases h
  · -- a string's bytes
    rename_i e s h1 h2
    split at h
    case h_2 => cases h
    rename_i ei hei
    have he := hc.ty _ _ hei
    split at h
    case h_2 => cases h
    rename_i hu8
    injection h with h; injection h with hh1 hh2; injection hh1 with hh1 hh3; subst hh1
    rw [List.length_map]
    obtain ⟨bs, rfl, hb⟩ := hx.inv_str
    have hlen : bs.size = s.length := by rw [← hb]; simp
    let cap := (Question.appendCap bs.size 0 e).cut (w.tape w.drawn (.appendCap bs.size 0 e))
    have hcap : bs.size ≤ cap := by simp [cap, Question.cut]
    let cur : Array Value := (bs.data.map fun b => Value.int .u8 b.toNat) ++ Array.replicate (cap - bs.size) (.int .u8 0)
    have hcs : cur.size = cap := by simp [cur]; omega
    let w0 : World := { w with drawn := w.drawn + 1 }
    have hR0 : R S w0 g base bd := hR.drawn rfl rfl rfl rfl
    have e0 : Evo S.length g w g w0 := Evo.drawn rfl rfl rfl rfl
    have hf : Flat g w0 S.length 1 (s.map fun b => .int .u8 b.toNat) (s.map fun b => .int .u8 b.toNat) := by
      refine ⟨by simp, fun i x hi => ?_, fun i x j c hi hj => ?_, fun u hu => ?_⟩
      · rw [List.getElem?_map] at hi
        cases hs : s[i]? with
        | none => simp [hs] at hi
        | some b => simp [hs] at hi; subst hi; rfl
      · rw [List.getElem?_map] at hi
        cases hs : s[i]? with
        | none => simp [hs] at hi
        | some b =>
          simp [hs] at hi; subst hi
          cases j with
          | succ j => simp [PV.cells] at hj
          | zero =>
            simp [PV.cells] at hj; subst hj
            simp [List.getElem?_map, hs]
            exact .int _ _
      · simp only [List.mem_map] at hu
        obtain ⟨b, _, rfl⟩ := hu
        rfl
    have hcl : cur.toList = (s.map fun b => Value.int .u8 b.toNat) ++ (Array.replicate (cap - bs.size) (Value.int .u8 0)).toList := by
      simp [cur, ← hb]
    obtain ⟨g', k1, k2, k3, k4⟩ := new_row hR0 hf e hcl (by simpa using hcs) (by simpa [hlen] using hcap) (fun v hv => by have := (List.mem_replicate.1 (by simpa using hv : v ∈ List.replicate (cap - bs.size) (Value.int .u8 0))).2; subst this; rfl) (cap, cap + 1) (fun i hi h => by omega)
    have hrun : (convert src dst (.string bs)).run P w = .ok (.slice (some ⟨w0.heap.size, 0, none⟩) bs.size cap) (w0.alloc (.cells cur e (cap, cap + 1))) := by
      have hfz : (w0.alloc (.cells cur e)).freeze { block := w0.heap.size, off := cap } 1 = w0.alloc (.cells cur e (cap, cap + 1)) := by
        unfold World.freeze World.alloc
        simp only [Nat.one_ne_zero, if_false]
        congr 1
        apply Array.ext (by simp)
        intro i hi1 hi2
        simp only [Array.size_modify, Array.size_push] at hi1
        rw [Array.getElem_modify]
        by_cases hi : i = w0.heap.size
        · subst hi; simp
        · rw [if_neg (by omega)]
          rw [Array.getElem_push_lt (by omega), Array.getElem_push_lt (by omega)]
      have hsh : (w0.alloc (.cells cur e)).shape? w0.heap.size = some (e, cap) := by
        have := alloc_new w0 (.cells cur e)
        simp only [World.shape?, this, hcs]
      have hq : (Question.appendCap bs.size 0 e).forced = false := rfl
      simp only [convert, Sem.run_bind, hs.run_und, hd.run_und, Result.andThen_ok, h1, h2, he.run_und, hu8, Conv.stringToBytes]
      rw [run_choose, hq, if_neg (by simp), Result.andThen_ok]
      simp only [newRow, Sem.run_bind, run_newObj, Result.andThen_ok, Sem.run_pure]
      show (((markStringish ⟨w0.heap.size, 0, none⟩).run P (w0.alloc (.cells cur e))).andThen _) = _
      simp only [markStringish, Sem.run_bind, run_shape, hsh, Result.andThen_ok, run_freeze, hfz]
      rfl
    simp only [List.length_map] at k1 k2 k4
    rw [hlen] at hrun
    exact ⟨_, _, hrun, g', k1, k2, e0.trans k3, k4⟩
  · rename_i e xs tag h1 h2
    split at h
    case h_2 => cases h
    split at h
    case h_2 => cases h
    cases hb : convPV.bytesOfPV xs <;> simp [hb] at h
  · split at h
    case h_2 => cases h
    split at h
    case h_2 => cases h
    cases h
  · cases h

theorem kind_beq {k l : IntKind} (h : (k == l) = true) : k = l := by simpa using h

mutual
theorem PV.same_eq : ∀ (x y : PV), PV.same x y = true → x = y
  | .poison, y, h => by cases y <;> simp_all [PV.same]
  | .bool b, y, h => by cases y <;> simp_all [PV.same]
  | .int k n, y, h => by cases y <;> simp_all [PV.same]
  | .str s, y, h => by cases y <;> simp_all [PV.same]
  | .nilp, y, h => by cases y <;> simp_all [PV.same]
  | .ptr a b, y, h => by cases y <;> simp_all [PV.same]
  | .iptr a b, y, h => by
    cases y <;> simp only [PV.same, Bool.and_eq_true, reduceCtorEq] at h
    rw [sameL_eq a _ h.1, beq_iff_eq.1 h.2]
  | .nils, y, h => by cases y <;> simp_all [PV.same]
  | .lst a t, y, h => by
    cases y <;> simp only [PV.same, Bool.and_eq_true, reduceCtorEq] at h
    rw [sameL_eq a _ h.1, beq_iff_eq.1 h.2]
  | .hsl a b c, y, h => by cases y <;> simp_all [PV.same]
  | .emp, y, h => by cases y <;> simp_all [PV.same]
  | .rsl a b, y, h => by cases y <;> simp_all [PV.same]
  | .nilm, y, h => by cases y <;> simp_all [PV.same]
  | .map a, y, h => by cases y <;> simp_all [PV.same]
  | .nilf, y, h => by cases y <;> simp_all [PV.same]
  | .fn f a b, y, h => by
    cases y <;> simp only [PV.same, Bool.and_eq_true, reduceCtorEq] at h
    rw [sameL_eq a _ h.1.2, sameL_eq b _ h.2, beq_iff_eq.1 h.1.1]
  | .nili, y, h => by cases y <;> simp_all [PV.same]
  | .ifc t v, y, h => by
    cases y <;> simp only [PV.same, Bool.and_eq_true, reduceCtorEq] at h
    rw [PV.same_eq v _ h.2, beq_iff_eq.1 h.1]
  | .agg a, y, h => by
    cases y <;> simp only [PV.same, reduceCtorEq] at h
    rw [sameL_eq a _ h]
  | .tup a, y, h => by
    cases y <;> simp only [PV.same, reduceCtorEq] at h
    rw [sameL_eq a _ h]
theorem sameL_eq : ∀ (x y : List PV), sameL x y = true → x = y
  | [], y, h => by cases y <;> simp_all [sameL]
  | x :: xs, y, h => by
    cases y <;> simp only [sameL, Bool.and_eq_true, reduceCtorEq] at h
    rw [PV.same_eq x _ h.1, sameL_eq xs _ h.2]
end

theorem flat_get {xs : List PV} {sz : Nat} (hc : ∀ x ∈ xs, x.cells.length = sz) : ∀ {i : Nat} {x : PV} {j : Nat} {c : PV}, xs[i]? = some x → x.cells[j]? = some c → (xs.flatMap PV.cells)[i * sz + j]? = some c := by
  induction xs with
  | nil => intro i x j c h; simp at h
  | cons y ys ih =>
    intro i x j c hi hj
    rw [List.flatMap_cons]
    have hy := hc y List.mem_cons_self
    cases i with
    | zero =>
      simp at hi; subst hi
      have hl := (List.getElem?_eq_some_iff.1 hj).1
      rw [Nat.zero_mul, Nat.zero_add, List.getElem?_append_left hl]; exact hj
    | succ i =>
      rw [List.getElem?_append_right (by rw [hy, Nat.add_mul]; omega), hy]
      have e : (i + 1) * sz + j - sz = i * sz + j := by rw [Nat.add_mul]; omega
      rw [e]
      exact ih (fun x hx => hc x (List.mem_cons_of_mem _ hx)) (by simpa using hi) hj

theorem born_alloc (hc : CtxTy P ctx) (hR : R S w g base bd) {t e : TypeId} {n : Nat} {ti ei : TyI} (hti : ctx.ty t = some ti) (hund : ti.und = .array n e) (hei : ctx.ty e = some ei)
    (hs : sameL ti.zero.cells ((List.replicate n ei.zero).flatMap PV.cells) = true) (hl : ei.zero.cells.length = ei.size) (hst : ti.zero.storable = true) :
    ∃ v w', (Instr.alloc t true (.tuple #[])).run P w = .ok v w' ∧ Good base bd S g w (.ptr S.length 0) (S ++ [.row (List.replicate n ei.zero) ei.size false]) false v w' := by
  have ht := hc.ty _ _ hti
  obtain ⟨z, hz, hz2, hz3⟩ := ht.run_zero w
  obtain ⟨y1, y2, y3⟩ := (absV_sound g w S.length hz2).storable hst
  have hcells := sameL_eq _ _ hs
  have hall : ∀ x ∈ List.replicate n ei.zero, x.cells.length = ei.size := fun x hx => by rw [(List.mem_replicate.1 hx).2]; exact hl
  have hlen : ∀ (xs : List PV), (∀ x ∈ xs, x.cells.length = ei.size) → (xs.flatMap PV.cells).length = xs.length * ei.size := by
    intro xs
    induction xs with
    | nil => intro _; simp
    | cons y ys ih => intro h; rw [List.flatMap_cons, List.length_append, h y List.mem_cons_self, ih (fun x hx => h x (List.mem_cons_of_mem _ hx)), List.length_cons, Nat.add_mul]; omega
  have hzl : z.cells.size = n * ei.size := by rw [y1, hcells, hlen _ hall, List.length_replicate]
  have hf : Flat g w S.length ei.size (List.replicate n ei.zero) z.cells.toList := by
    refine ⟨by simpa using hzl, fun i x hi => hall x (List.mem_of_getElem? hi), fun i x j c hi hj => ?_, fun u hu => y3 u (Array.mem_def.2 hu)⟩
    have := flat_get hall hi hj
    rw [← hcells] at this
    rw [getD_toList]
    exact y2 _ c this
  obtain ⟨g', k1, k2, k3, k4⟩ := new_row (cap := n) hR hf t (cur := z.cells) (rest := []) (by simp) hzl (by simp) (fun v hv => by cases hv) (0, 0) (fun i _ h => by omega)
  refine ⟨.pointer (some ⟨w.heap.size, 0, none⟩), w.alloc (.cells z.cells t), ?_, g', ?_, k2, k3, k4⟩
  · simp [Instr.alloc, hz, newVar, newRow]
  · obtain ⟨q1, q2, q3, q4⟩ := k1.inv_rsl
    have := V.ptr (g := g') (w := w.alloc (.cells z.cells t)) (n := (S ++ [SObj.row (List.replicate n ei.zero) ei.size false]).length) S.length 0 q3 q4
    injection q1 with q1 _ _
    injection q1 with q1
    rw [q1]; exact this

theorem born_bld (hc : CtxTy P ctx) (hR : R S w g base bd) {t : TypeId} {ti : TyI} (hti : ctx.ty t = some ti) (hz0 : PV.same ti.zero (.agg [.nilp, .nils]) = true) :
    ∃ v w', (Instr.alloc t true (.tuple #[])).run P w = .ok v w' ∧ Good base bd S g w (.ptr S.length 0) (S ++ [.bld t false none]) false v w' := by
  have ht := hc.ty _ _ hti
  obtain ⟨z, hz, hz2, _⟩ := ht.run_zero w
  have hV := absV_sound g w S.length hz2
  rw [PV.same_eq _ _ hz0] at hV
  obtain ⟨cs', rfl, hl, h1, _⟩ := hV.inv_agg
  have e0 := h1 0 .nilp rfl
  have e1 := h1 1 .nils rfl
  have hcs : cs' = #[.pointer none, .slice none 0 0] := by
    have h2 : cs'.size = 2 := by simpa using hl.symm
    obtain ⟨a, b, rfl⟩ : ∃ a b, cs' = #[a, b] := by
      match cs', h2 with
      | ⟨[a, b]⟩, _ => exact ⟨a, b, rfl⟩
    cases e0 with
    | nilp => cases e1 with
      | nils => rfl
  subst hcs
  have hpp := hR.hpp w.heap.size (Nat.le_refl _)
  have hgB := hR.hfix
  have evo : Evo S.length g w (g.new S.length w.heap.size 0 0 0 true) (w.alloc (.cells #[.pointer none, .slice none 0 0] t)) := Evo.newBlock _ (Nat.le_refl _) hpp hgB
  refine ⟨.pointer (some ⟨w.heap.size, 0, none⟩), w.alloc (.cells #[.pointer none, .slice none 0 0] t), ?_, g.new S.length w.heap.size 0 0 0 true, ?_, ?_, evo, by simp⟩
  · simp [Instr.alloc, hz, newVar, newRow, Value.cells]
  · have := V.ptr (g := g.new S.length w.heap.size 0 0 0 true) (w := w.alloc (.cells #[.pointer none, .slice none 0 0] t)) (n := (S ++ [SObj.bld t false none]).length) S.length 0 (by simp) (by simp [G.new])
    simpa [G.new] using this
  · simp only [Bool.false_eq_true, if_false]
    refine hR.newBlock _ _ ⟨by simp [G.new], ?_, by simp [G.new], (fun j n h => by cases h), ?_⟩
    · intro hk
      have hk' : g.fix w.heap.size := by simpa [G.new] using hk
      have := hR.hfix _ hk'
      omega
    · have := alloc_new w (.cells #[.pointer none, .slice none 0 0] t)
      simp only [G.new, if_true, bufVal, Bool.false_eq_true, if_false]
      exact this

theorem R.freeze (h : R S w g base bd) {id : Nat} {xs : List PV} {sz : Nat} {fz : Bool} (hs : S[id]? = some (.row xs sz fz)) :
    ∃ g', R (S.set id (.row xs sz true)) w g' base bd ∧ Evo S.length g w g' w ∧ V g' w S.length (.lst xs .none) (.slice (some ⟨g.loc id, 0, none⟩) xs.length (g.hw id)) := by
  obtain ⟨l1, l2, l3, cur, t, fr, l4, l5, l6, l7, l8, l9, l10⟩ := h.live id _ hs
  have hid := R.lt h hs
  have hle : xs.length * sz ≤ g.hw id * sz := Nat.mul_le_mul_right _ l5
  have hlt : g.loc id < w.heap.size := (Array.getElem?_eq_some_iff.1 l4).1
  let g' : G := { g with pp := fun k => if k = g.loc id then xs.length * sz else g.pp k }
  have hpp : ∀ k, g.pp k ≤ g'.pp k := by
    intro k
    simp only [g']
    split
    · rename_i hk; subst hk; rw [l3]; split
      · exact Nat.le_refl _
      · exact Nat.zero_le _
    · exact Nat.le_refl _
  have oth : ∀ (k : Nat) (o : SObj), S[k]? = some o → o ≠ .dead → k ≠ id → g.loc k ≠ g.loc id := fun k o hk hd hne e => hne (h.inj k id o _ hk hs hd (by simp) e)
  have evo : Evo S.length g w g' w := by
    refine ⟨hpp, fun _ _ _ => rfl, fun _ _ => rfl, fun _ _ _ => rfl, fun _ _ => rfl, fun _ _ => Nat.le_refl _, fun _ _ _ => rfl, fun k cap hk hob _ ht => ?_, Nat.le_refl _, rfl, fun _ _ => rfl, fun k hk => ?_, rfl, rfl, rfl⟩
    · obtain ⟨o, ho⟩ : ∃ o, S[k]? = some o := ⟨_, List.getElem?_eq_getElem hk⟩
      have hd : o ≠ .dead := by
        rintro rfl
        have := h.live k _ ho
        simp [Live, hob] at this
      have hki : k ≠ id := by rintro rfl; rw [l1] at hob; cases hob
      exact TipC.heap (g := g) rfl rfl rfl (by simp only [g']; rw [if_neg (oth k o ho hd hki)]) rfl ht
    · simp only [g']; rw [if_neg (by rintro rfl; exact l2 hk)]
  have hlst : V g' w (lim base bd S.length id) (.lst xs .none) (.slice (some ⟨g.loc id, 0, none⟩) xs.length (g.hw id)) := by
    have lt : ∀ (i : Nat) (x : PV) (j : Nat), xs[i]? = some x → j < sz → i * sz + j < xs.length * sz := fun i x j hi hj => idx_lt (List.getElem?_eq_some_iff.1 hi).1 hj
    have jl : ∀ (i : Nat) (x : PV) (j : Nat) (c : PV), xs[i]? = some x → x.cells[j]? = some c → j < sz := fun i x j c hi hj => by
      rw [← l9 i x hi]; exact (List.getElem?_eq_some_iff.1 hj).1
    refine .lst xs .none (g.loc id) 0 (g.hw id) sz (fun i j => cur.getD (i * sz + j) undef) l5 l9 (fun i x j c hi hj => ?_) (fun i x j c hi hj => ?_) (fun i x j c hi hj => (l10 i x j c hi hj).evo (evo.mono (lim_le h id))) (fun i x j hi hj => ?_) trivial
    · simp only [g', if_true]
      have := lt i x j hi (jl i x j c hi hj); omega
    · have := lt i x j hi (jl i x j c hi hj)
      have hin : i * sz + j < cur.size := by omega
      simp [World.cell?, l4, hin]
    · have := lt i x j hi hj
      have hin : i * sz + j < cur.size := by omega
      simp only [Array.getD_eq_getD_getElem?, Array.getElem?_eq_getElem hin, Option.getD_some]
      exact l7 _ (Array.getElem_mem _)
  refine ⟨g', ⟨by simpa using h.hbase, h.hbd, h.hfix, fun b hb => ?_, fun k q hk => ?_, fun i k p q hi hk hp hq hloc => ?_⟩, evo, hlst.mono (lim_le h id)⟩
  · simp only [g']; rw [if_neg (by omega)]; exact h.hpp b hb
  · rw [List.length_set]
    by_cases hki : k = id
    · subst hki
      rw [List.getElem?_set_self hid] at hk
      injection hk with hk; subst hk
      exact ⟨l1, l2, by simp [g'], cur, t, fr, l4, l5, l6, l7, l8, l9, fun i x j c hi hj => (l10 i x j c hi hj).evo (evo.mono (lim_le h k))⟩
    · rw [List.getElem?_set_ne (Ne.symm hki)] at hk
      have hl := h.live k q hk
      refine hl.evo (evo.mono (lim_le h k)) rfl rfl rfl rfl (fun hd _ => ⟨rfl, ?_⟩)
      simp only [g']; rw [if_neg (oth k q hk hd hki)]
  · have aux : ∀ (m : Nat) (q : SObj), (S.set id (.row xs sz true))[m]? = some q → q ≠ .dead → ∃ q', S[m]? = some q' ∧ q' ≠ .dead := by
      intro m q hm hq
      by_cases hmi : m = id
      · subst hmi; exact ⟨_, hs, by simp⟩
      · rw [List.getElem?_set_ne (Ne.symm hmi)] at hm
        exact ⟨q, hm, hq⟩
    obtain ⟨p', h1, h2⟩ := aux i p hi hp
    obtain ⟨q', h3, h4⟩ := aux k q hk hq
    exact h.inj i k p' q' h1 h3 h2 h4 hloc

theorem frzQ_len {v v' : PV} {S S' : List SObj} (h : frzQ v S = some (v', S')) : S'.length = S.length := by
  unfold frzQ at h
  split at h
  · split at h
    · split at h
      · injection h with h; injection h with h1 h2; subst h2; simp
      · cases h
    · cases h
  · injection h with h; injection h with h1 h2; subst h2; rfl
  · cases h

theorem frzQ_sound (h : R S w g base bd) {v v' : PV} {S' : List SObj} {u : Value} (hv : V g w S.length v u) (hq : frzQ v S = some (v', S')) :
    ∃ g', R S' w g' base bd ∧ Evo S.length g w g' w ∧ V g' w S.length v' u := by
  unfold frzQ at hq
  split at hq
  · rename_i id len
    split at hq
    · rename_i xs sz fz hs
      split at hq
      · rename_i hl
        injection hq with hq; injection hq with h1 h2; subst h1; subst h2
        obtain ⟨rfl, _, _, _⟩ := hv.inv_rsl
        subst hl
        exact h.freeze hs
      · cases hq
    · cases hq
  · injection hq with hq; injection hq with h1 h2; subst h1; subst h2
    obtain ⟨a, rfl⟩ := hv.inv_emp
    exact ⟨g, h, Evo.refl _ _ _, .lst0 a⟩
  · cases hq

theorem frz1_len (v : PV) (S : List SObj) : (frz1 v S).2.length = S.length := by
  unfold frz1
  cases h : frzQ v S with
  | none => rfl
  | some q => exact frzQ_len h

theorem frz1_sound (h : R S w g base bd) {v : PV} {u : Value} (hv : V g w S.length v u) :
    ∃ g', R (frz1 v S).2 w g' base bd ∧ Evo S.length g w g' w ∧ V g' w S.length (frz1 v S).1 u := by
  unfold frz1
  cases hq : frzQ v S with
  | none => exact ⟨g, h, Evo.refl _ _ _, hv⟩
  | some q => exact frzQ_sound h hv hq

theorem frzL_len : ∀ (vs : List PV) (S : List SObj), (frzL vs S).2.length = S.length ∧ (frzL vs S).1.length = vs.length
  | [], S => ⟨rfl, rfl⟩
  | v :: vs, S => by
    obtain ⟨h1, h2⟩ := frzL_len vs (frz1 v S).2
    simp only [frzL]
    exact ⟨h1.trans (frz1_len v S), by simpa using h2⟩

theorem frzL_sound : ∀ (vs : List PV) (us : List Value) (S : List SObj) (g : G), R S w g base bd → vs.length = us.length → (∀ (i : Nat) (c : PV), vs[i]? = some c → V g w S.length c (us.getD i undef)) →
    ∃ g', R (frzL vs S).2 w g' base bd ∧ Evo S.length g w g' w ∧ ∀ (i : Nat) (c : PV), (frzL vs S).1[i]? = some c → V g' w S.length c (us.getD i undef)
  | [], us, S, g, h, hl, hV => ⟨g, h, Evo.refl _ _ _, fun i c hi => by simp [frzL] at hi⟩
  | v :: vs, [], S, g, h, hl, hV => by simp at hl
  | v :: vs, u :: us, S, g, h, hl, hV => by
    obtain ⟨g1, r1, e1, v1⟩ := frz1_sound h (hV 0 v rfl)
    have hlen := frz1_len v S
    obtain ⟨g2, r2, e2, v2⟩ := frzL_sound vs us (frz1 v S).2 g1 r1 (by simpa using hl) (fun i c hi => by
      rw [hlen]
      have := hV (i + 1) c (by simpa using hi)
      exact (by simpa using this : V g w S.length c (us.getD i undef)).evo e1)
    rw [hlen] at e2
    refine ⟨g2, r2, e1.trans e2, fun i c hi => ?_⟩
    cases i with
    | zero =>
      simp [frzL] at hi; subst hi
      simpa using v1.evo e2
    | succ i =>
      have := v2 i c (by simpa [frzL] using hi)
      rw [hlen] at this
      simpa using this

theorem frzT_len : ∀ (xs : List Operand) (σ : Nat → PV) (S : List SObj), (frzT xs σ S).2.length = S.length
  | [], _, _ => rfl
  | .tmp t :: xs, σ, S => by
    simp only [frzT]
    split
    · rename_i v S1 h
      exact (frzT_len xs _ _).trans (frzQ_len h)
    · exact frzT_len xs _ _
  | .const _ :: xs, σ, S => frzT_len xs σ S
  | .global _ :: xs, σ, S => frzT_len xs σ S
  | .func _ :: xs, σ, S => frzT_len xs σ S

theorem Slots.upd {σ : Nat → PV} {tmps : Array Value} (h : Slots g w n σ tmps) {t : Nat} {v : PV} (hv : V g w n v (tmps.getD t undef)) : Slots g w n (upd σ (some t) v) tmps := by
  intro i
  simp only [Go.Pam.upd]
  split
  · rename_i hi; subst hi; exact hv
  · exact h i

theorem frzT_sound {tmps : Array Value} : ∀ (xs : List Operand) (σ : Nat → PV) (S : List SObj) (g : G), R S w g base bd → Slots g w S.length σ tmps →
    ∃ g', R (frzT xs σ S).2 w g' base bd ∧ Evo S.length g w g' w ∧ Slots g' w S.length (frzT xs σ S).1 tmps
  | [], σ, S, g, h, hs => ⟨g, h, Evo.refl _ _ _, hs⟩
  | .tmp t :: xs, σ, S, g, h, hs => by
    simp only [frzT]
    split
    · rename_i v S1 hq
      obtain ⟨g1, r1, e1, v1⟩ := frzQ_sound h (hs t) hq
      have hlen := frzQ_len hq
      have hs1 : Slots g1 w S1.length (Go.Pam.upd σ (some t) v) tmps := by rw [hlen]; exact (hs.evo e1).upd v1
      obtain ⟨g2, r2, e2, s2⟩ := frzT_sound xs _ _ g1 r1 hs1
      rw [hlen] at e2 s2
      exact ⟨g2, r2, e1.trans e2, s2⟩
    · exact frzT_sound xs σ S g h hs
  | .const _ :: xs, σ, S, g, h, hs => frzT_sound xs σ S g h hs
  | .global _ :: xs, σ, S, g, h, hs => frzT_sound xs σ S g h hs
  | .func _ :: xs, σ, S, g, h, hs => frzT_sound xs σ S g h hs

theorem born_append (hc : CtxTy P ctx) (hR : R S w g base bd) {ts : Array TypeId} {ty : TypeId} {x : PV} {args : Array Value} {A : Option Addr} {x' : Value} {y : PV} {S' : List SObj} (h0 : args[0]? = some (.slice A 0 0)) (h1 : args[1]? = some x')
    (hx : V g w S.length x x') (h : birthPV.bornApp ctx ts x S = some (y, S')) (hne : listOf x ≠ some []) : ∃ v w', (Builtin.append_ ts ty args).run P w = .ok v w' ∧ Good base bd S g w y S' false v w' := by
  unfold birthPV.bornApp at h
  split at h
  case h_2 => cases h
  rename_i xs _ S1 happ
  split at h
  case h_2 => cases h
  rename_i hw sz hS1
  injection h with h; injection h with hh1 hh2; subst hh1; subst hh2
  unfold appendPV at happ
  split at happ
  case h_2 => cases happ
  rename_i t u ht0 ht1
  split at happ
  case h_2 => cases happ
  rename_i ti ui ys hti hui hys
  split at happ
  · cases happ
  case h_3 => cases happ
  rename_i e hund hnum'
  have hnum : ∀ k, ui.und ≠ .int k := fun k hk => by simp_all
  split at happ
  · cases happ
  rename_i ei hei
  split at happ
  · rename_i hemp
    have : ys = [] := by simpa using hemp
    subst this
    exact absurd hys hne
  rename_i hyne
  have hyne' : ys ≠ [] := by simpa using hyne
  split at happ
  · cases happ
  rename_i hn
  simp only [not_or, Bool.not_eq_false, Decidable.not_not] at hn
  obtain ⟨n1, n2, n3, n4, n5⟩ := hn
  have hyl : 0 < ys.length := by cases ys with | nil => exact absurd rfl hyne' | cons => simp
  obtain ⟨new, l1, l2, l3⟩ := listOf_cells (P := P) hx hys n1 hyne'
  simp only at happ
  split at happ
  case isFalse => cases happ
  rename_i hb
  injection happ with happ; injection happ with hh1 hh2
  injection hh1 with hh1 hh3
  subst hh1; subst hh2
  have hsz : sz = ei.size := by
    rw [List.getElem?_append_right (Nat.le_refl _), Nat.sub_self] at hS1
    simp at hS1
    exact hS1.2.symm
  subst hsz
  obtain ⟨newCap, w0, cur, rest, q1, q2, q3, q4, q5, q6, q7, q9, q8⟩ := append_grow (ty := ty) (old := []) (len := 0) (cap := 0) (m := ys.length) hc ht0 ht1 hti hui hei hund hnum h0 h1 l1 l2
    (fun w' _ => by cases A <;> simp [Builtin.firstCells, loadCells, loadCellsFrom]) (by omega) n3 (by simpa using hb) n5
  have hR0 := hR.drawn q2 q3 q4 q5
  have e0 : Evo S.length g w g w0 := Evo.drawn q2 q3 q4 q5
  have hf := (l3.evo e0)
  rw [List.nil_append] at q6
  have hcs : cur.size = newCap * ei.size := by
    have : cur.toList.length = newCap * ei.size := by
      rw [q6, List.length_append, hf.1, q7, ← Nat.add_mul]; congr 1; omega
    simpa using this
  obtain ⟨g', k1, k2, k3, k4⟩ := new_row hR0 hf e q6 hcs (by omega) (q9 n4) (0, 0) (fun i _ h => by omega)
  rw [Nat.zero_add] at q8
  exact ⟨_, _, q8, g', k1, k2, e0.trans k3, k4⟩
end
end Go.Pam
