/- The abstract machine and its soundness, part 2. -/
import Derived.WideShapes
import Derived.Carry
import Derived.Deep.Slices
import Derived.ChangeArms
import Derived.Maps.AppendAt
import Derived.Lib.FrozenHead
import Derived.Lib.FrozenHead2
import Derived.Lib.UnsafeStr
import Derived.Test.YtbinlabnilidiaaGreatDoorPamM1
set_option linter.unusedVariables false
set_option linter.unusedSimpArgs false
namespace Go.Pam
open Go.RowKit
structure Xbf (P : Program) (f : FuncId) (pf : PFn) : Prop where
 ok : ∃ fn c m, P.funcs[f]? = some fn ∧ fn.body = some c ∧ Xbd m c = some pf.body ∧ fn.ntmps = pf.ntmps ∧ fn.results.toList = pf.results ∧ fn.name ≠ "runtime.NumGoroutine"
def Gl (ctx : Ctx) (w : World) (g : G) : Prop := ∀ p ∈ ctx.gls, g.fix p.1 ∧ w.cell? ⟨p.1, 0, none⟩ = some p.2
theorem Gl.evo {ctx : Ctx} {n : Nat} {g g' : G} {w w' : World} (h : Gl ctx w g) (e : Evo n g w g' w') : Gl ctx w' g' := fun p hp => ⟨by rw [e.fix]; exact (h p hp).1, (Xc7 (e.low _ (h p hp).1) 0).trans (h p hp).2⟩
theorem Xk0 {w : World} {a : Addr} {v : Value} (h : w.cell? a = some v) : a.block < w.heap.size := by
 rcases Nat.lt_or_ge a.block w.heap.size with h' | h'
 ·exact h'
 ·simp [World.cell?, Array.getElem?_eq_none h'] at h
theorem Gl.all {ctx : Ctx} {g : G} {w : World} (h : Gl ctx w g) : Gl ctx w { g with fix := fun k => k < w.heap.size } := fun p hp => ⟨Xk0 (h p hp).2, (h p hp).2⟩
def Xcb (P : Program) (ctx : Ctx) (call : Xcm) : Prop :=
 ∀ (f : FuncId) (args : List PV) (S : List SObj) (v : PV) (S' : List SObj) (e : Bool), call f args S = some (v, S', e) →
  ∀ (w : World) (g : G) (base : Nat) (bd : Nat → Nat) (cargs : Array Value), R S w g base bd → Gl ctx w g → args.length = cargs.size → (∀ (i : Nat) (c : PV), args[i]? = some c → V g w S.length c (cargs.getD i undef)) →
   (∃ fn, P.funcs[f]? = some fn ∧ fn.body.isNone = false ∧ fn.name ≠ "runtime.NumGoroutine") ∧
   Calls P f cargs w (fun en w' => ∃ rv, en = .returned rv ∧ XbE base bd S g w v S' e rv w')
theorem Xcb.run {P : Program} {f : FuncId} {cargs : Array Value} {w : World} (h : ∃ fn, P.funcs[f]? = some fn ∧ fn.body.isNone = false ∧ fn.name ≠ "runtime.NumGoroutine") :
  (callFunc f cargs).run P w = .ok (.enter f cargs) w := by
 obtain ⟨fn, h1, h2, h3⟩ := h
 simp only [callFunc, Sem.run_bind, run_program, Result.andThen_ok, h1]
 rw [if_neg (by simpa using h3), if_neg (by simp only [h2]; simp)]
 rfl
section
variable {P : Program} {ctx : Ctx} {call : Xcm} {S : List SObj} {g : G} {w : World} {base base' : Nat} {bd : Nat → Nat} {σ : Nat → PV} {a : Act}
theorem XoN {g : G} {w : World} {n : Nat} (hs : XbR g w n σ a.tmps) (xs : Array Operand) : (xs.toList.map (opd σ)).length = (xs.map a.eval).size ∧
  ∀ (i : Nat) (c : PV), (xs.toList.map (opd σ))[i]? = some c → V g w n c ((xs.map a.eval).getD i undef) := by
 refine ⟨by simp, fun i c hi => ?_⟩
 rw [List.getElem?_map] at hi
 rw [Array.getD_eq_getD_getElem?, Array.getElem?_map]
 rw [Array.getElem?_toList] at hi
 cases hx : xs[i]? with
 | none => simp [hx] at hi
 | some x =>
  simp [hx] at hi; subst hi
  exact Xa6 hs x
theorem Xdq {g : G} {w : World} {n : Nat} (hs : XbR g w n σ a.tmps) : ∀ (ps : List (Nat × Operand)), Xhc g w n (ps.map fun p => (p.1, opd σ p.2)) (ps.map fun p => (p.1, a.eval p.2))
 | [] => trivial
 | p :: ps => ⟨rfl, Xa6 hs p.2, Xdq hs ps⟩
def Xco (P : Program) (o : Oper) (a : Act) (w : World) (Post : Value → World → Prop) : Prop :=
 ∀ (next : Act → World → Prop) (Q : Exit → Act → World → Prop), (∀ v w', Post v w' → next (a.put o.dst v) w') → o.wp P a w next Q
theorem Xco.value {o : Oper} {v : Value} {w' : World} {Post : Value → World → Prop} (h : (execOp a.eval o).run P w = .ok (.value v) w') (hp : Post v w') : Xco P o a w Post := by
 intro next Q hn
 unfold Oper.wp
 rw [h]
 exact hn v w' hp
theorem Xco.skip {o : Oper} {w' : World} {Post : Value → World → Prop} (h : (execOp a.eval o).run P w = .ok .skip w') (hp : Post undef w') : Xco P o a w Post := by
 intro next Q hn
 unfold Oper.wp
 rw [h]
 exact hn undef w' hp
theorem Xco.enter {o : Oper} {f : FuncId} {args : Array Value} {w' : World} {Post : Value → World → Prop} (h : (execOp a.eval o).run P w = .ok (.enter f args) w')
  (hp : Calls P f args w' (fun en w'' => ∃ rv, en = .returned rv ∧ Post rv w'')) : Xco P o a w Post := by
 intro next Q hn
 unfold Oper.wp
 rw [h]
 refine hp.mono ?_
 rintro e w'' ⟨rv, rfl, hpost⟩
 exact hn rv w'' hpost
theorem XhQ (hc : Xbl P ctx) (hcall : Xcb P ctx call) (hR : R S w g base bd) (hgl : Gl ctx w g) (hs : XbR g w S.length σ a.tmps) {o : Oper} {c : Go.Call} (hop : o.op = .call c) {x : PV} {S' : List SObj} {e : Bool}
  (h : Xct ctx call σ S c = some (x, S', e)) : Xco P o a w (fun v w' => XbE base bd S g w x S' e v w') := by
 obtain ⟨o1, o2⟩ := XoN hs c.args
 have arg0 : ∀ (k : Nat) (y : PV), (c.args.toList.map (opd σ))[k]? = some y → ∃ y', (c.args.map a.eval)[k]? = some y' ∧ V g w S.length y y' := by
  intro k y hk
  have hl : k < (c.args.map a.eval).size := by have := (List.getElem?_eq_some_iff.1 hk).1; omega
  have := o2 k y hk
  rw [Array.getD_eq_getD_getElem?, Array.getElem?_eq_getElem hl] at this
  exact ⟨_, Array.getElem?_eq_getElem hl, this⟩
 unfold Xct at h
 split at h
 ·-- len
  rename_i hcal
  split at h
  case h_2 => cases h
  rename_i t y ys ht hy
  cases hl : Xf9 ctx t y S with
  | none => simp [hl] at h
  | some i =>
   simp [hl] at h; obtain ⟨rfl, rfl, rfl⟩ := h
   obtain ⟨y', h1, h2⟩ := arg0 0 y (by rw [hy]; rfl)
   have := Xlw (P := P) (ty := o.type) hc hR ht h1 h2 hl
   exact Xco.value (v := .int .i64 i) (w' := w) (by simp [execOp, hop, resolve, hcal, invoke, builtin, this]) (XbE.same hR (.int _ _))
 ·-- append
  rename_i hcal
  split at h
  case h_2 => cases h
  rename_i s y ys hy
  cases hl : Xbi ctx c.argTypes s y S with
  | none => simp [hl] at h
  | some z =>
   simp [hl] at h; obtain ⟨rfl, rfl, rfl⟩ := h
   obtain ⟨s', h1, h2⟩ := arg0 0 s (by rw [hy]; rfl)
   obtain ⟨y', h3, h4⟩ := arg0 1 y (by rw [hy]; rfl)
   obtain ⟨v, w', h5, h6⟩ := XfH (P := P) (ty := o.type) hc hR h1 h3 h2 h4 (show Xbi ctx c.argTypes s y S = some (z.1, z.2) from hl)
   exact Xco.value (v := v) (w' := w') (by simp [execOp, hop, resolve, hcal, invoke, builtin, h5]) h6
 ·-- min
  rename_i hcal
  cases hl : Xes false (c.args.toList.map (opd σ)) with
  | none => simp [hl] at h
  | some y =>
   simp [hl] at h; obtain ⟨rfl, rfl, rfl⟩ := h
   obtain ⟨v, h1, h2⟩ := XfI (P := P) (w := w) false (ts := c.argTypes) (ty := o.type) o1 o2 hl
   simp only [Bool.false_eq_true, if_false] at h1
   exact Xco.value (v := v) (w' := w) (by simp [execOp, hop, resolve, hcal, invoke, builtin, h1]) (XbE.same hR h2)
 ·-- max
  rename_i hcal
  cases hl : Xes true (c.args.toList.map (opd σ)) with
  | none => simp [hl] at h
  | some y =>
   simp [hl] at h; obtain ⟨rfl, rfl, rfl⟩ := h
   obtain ⟨v, h1, h2⟩ := XfI (P := P) (w := w) true (ts := c.argTypes) (ty := o.type) o1 o2 hl
   simp only [if_true] at h1
   exact Xco.value (v := v) (w' := w) (by simp [execOp, hop, resolve, hcal, invoke, builtin, h1]) (XbE.same hR h2)
 ·cases h
 ·-- a function's value
  rename_i f hcal
  split at h
  case h_2 => cases h
  rename_i f' cap hf
  have hfv := Xa6 hs f
  rw [hf] at hfv
  obtain ⟨as', bs', he, ha, hb, _, hbV⟩ := hfv.inv_fn
  have has : as' = #[] := by simpa using ha.symm
  subst has
  have hargs : ∀ (i : Nat) (c' : PV), (c.args.toList.map (opd σ) ++ cap)[i]? = some c' → V g w S.length c' ((c.args.map a.eval ++ bs').getD i undef) := by
   intro i c' hi
   rw [Array.getD_eq_getD_getElem?]
   rcases Nat.lt_or_ge i (c.args.toList.map (opd σ)).length with hl | hl
   ·rw [List.getElem?_append_left hl] at hi
    rw [Array.getElem?_append_left (by omega), ← Array.getD_eq_getD_getElem?]
    exact o2 i c' hi
   ·rw [List.getElem?_append_right hl] at hi
    rw [Array.getElem?_append_right (by omega), ← o1, ← Array.getD_eq_getD_getElem?]
    exact hbV _ c' hi
  obtain ⟨k1, k2⟩ := hcall f' _ S x S' e h w g base bd (c.args.map a.eval ++ bs') hR hgl (by simp at o1 ⊢; omega) hargs
  refine Xco.enter (f := f') (args := c.args.map a.eval ++ bs') (w' := w) ?_ k2
  have := Xcb.run (w := w) (cargs := c.args.map a.eval ++ bs') k1
  simp only [execOp, hop, resolve, hcal, he, Deferred.ofValue, Sem.run_bind, Sem.run_pure, Result.andThen_ok, invoke, Array.empty_append]
  exact this
 ·-- a method of an interface value
  rename_i r name hcal
  split at h
  case h_2 => cases h
  rename_i f' v hm
  obtain ⟨t, y', v', he, hrun, hv⟩ := XiH (P := P) (fuel := P.types.size + Made.depth - 1) hc (Xa6 hs r) hm
  have hdep : P.types.size + Made.depth - 1 + 1 = P.types.size + Made.depth := by
   have : 0 < Made.depth := by decide
   omega
  rw [hdep] at hrun
  have hargs : ∀ (i : Nat) (c' : PV), (v :: c.args.toList.map (opd σ))[i]? = some c' → V g w S.length c' ((#[v'] ++ c.args.map a.eval).getD i undef) := by
   intro i c' hi
   rw [Array.getD_eq_getD_getElem?]
   cases i with
   | zero =>
    simp at hi; subst hi
    rw [Array.getElem?_append_left (by simp)]
    simpa using hv
   | succ i =>
    have := o2 i c' (by simpa using hi)
    rw [Array.getElem?_append_right (by simp)]
    simpa [Array.getD_eq_getD_getElem?] using this
  obtain ⟨k1, k2⟩ := hcall f' _ S x S' e h w g base bd (#[v'] ++ c.args.map a.eval) hR hgl (by simp at o1 ⊢; omega) hargs
  refine Xco.enter (f := f') (args := #[v'] ++ c.args.map a.eval) (w' := w) ?_ k2
  have := Xcb.run (w := w) (cargs := #[v'] ++ c.args.map a.eval) k1
  have e0 : (#[Value.iface t y'] ++ c.args.map a.eval)[0]? = some (Value.iface t y') := by
   rw [Array.getElem?_append_left (by simp)]; rfl
  have e1 : (#[Value.iface t y'] ++ c.args.map a.eval).extract 1 (#[Value.iface t y'] ++ c.args.map a.eval).size = c.args.map a.eval := by
   simp
  simp only [execOp, hop, resolve, hcal, Sem.run_bind, Sem.run_pure, Result.andThen_ok, invoke, he, e0, e1, callMethod, run_program, hrun]
  exact this
theorem XhR (hc : Xbl P ctx) (hcall : Xcb P ctx call) (hR : R S w g base bd) (hgl : Gl ctx w g) (hs : XbR g w S.length σ a.tmps) (hb : base = 0 ∨ base = base') {o : Oper} {x : PV} {S' : List SObj} {e : Bool}
  (h : XaL ctx call base' σ S o.op = some (x, S', e)) : Xco P o a w (fun v w' => XbE base bd S g w x S' e v w') := by
 cases hop : o.op <;> rw [hop] at h <;> simp only [XaL] at h
 case move y =>
  injection h with h; injection h with h1 h2; injection h2 with h2 h3; subst h1; subst h2; subst h3
  exact Xco.value (v := a.eval y) (w' := w) (by simp [execOp, hop]) (XbE.same hR (Xa6 hs y))
 case assign y =>
  injection h with h; injection h with h1 h2; injection h2 with h2 h3; subst h1; subst h2; subst h3
  exact Xco.value (v := a.eval y) (w' := w) (by simp [execOp, hop]) (XbE.same hR (Xa6 hs y))
 case pick c y z =>
  split at h
  case h_2 => cases h
  rename_i t hct
  injection h with h; injection h with h1 h2; injection h2 with h2 h3; subst h1; subst h2; subst h3
  have hcv := Xa6 hs c
  rw [hct] at hcv
  have hcv := hcv.inv_bool
  refine Xco.value (v := if t then a.eval y else a.eval z) (w' := w) (by simp [execOp, hop, hcv, asBool]) (XbE.same hR ?_)
  cases t
  ·exact Xa6 hs z
  ·exact Xa6 hs y
 case alloc t =>
  split at h
  case h_2 => cases h
  rename_i ti hti
  split at h
  case isFalse => cases h
  rename_i hst
  injection h with h; injection h with h1 h2; injection h2 with h2 h3; subst h1; subst h2; subst h3
  obtain ⟨v, w', h1, h2⟩ := XjH hc hR hti hst
  exact Xco.value (v := v) (w' := w') (by simp [execOp, hop, h1]) h2
 case box t y =>
  split at h
  case isFalse => cases h
  rename_i hst
  injection h with h; injection h with h1 h2; injection h2 with h2 h3; subst h1; subst h2; subst h3
  obtain ⟨v, w', h1, h2⟩ := Xlu (P := P) hR hs (t := t) hst
  exact Xco.value (v := v) (w' := w') (by simp [execOp, hop, h1]) h2
 case build t ps =>
  cases hy : XeF ctx t (ps.toList.map fun p => (p.1, opd σ p.2)) with
  | none => simp [hy] at h
  | some y =>
   simp [hy] at h; obtain ⟨rfl, rfl, rfl⟩ := h
   obtain ⟨v, h1, h2⟩ := XjN (P := P) hc (qs := ps.map fun p => (p.1, a.eval p.2)) (by simpa using Xdq hs ps.toList) hy
   exact Xco.value (v := v) (w' := w) (by simp [execOp, hop, h1]) (XbE.same hR h2)
 case buildSlice t m ps =>
  cases hy : Xbk ctx t m (ps.toList.map fun p => (p.1, opd σ p.2)) with
  | none => simp [hy] at h
  | some y =>
   simp [hy] at h; obtain ⟨rfl, rfl, rfl⟩ := h
   obtain ⟨v, w', h1, h2⟩ := XfE (P := P) hc hR (qs := ps.map fun p => (p.1, a.eval p.2)) (by simpa using Xdq hs ps.toList) hy
   exact Xco.value (v := v) (w' := w') (by simp [execOp, hop, h1]) h2
 case load t p =>
  cases hy : Xb2 ctx t (opd σ p) S with
  | none => simp [hy] at h
  | some y =>
   simp [hy] at h; obtain ⟨rfl, rfl, rfl⟩ := h
   obtain ⟨v, h1, h2⟩ := XhK (P := P) hc hR hs hy
   exact Xco.value (v := v) (w' := w) (by simp [execOp, hop, h1]) (XbE.same hR h2)
 case store t p y =>
  cases hy : Xed ctx base' t (opd σ p) (opd σ y) S with
  | none => simp [hy] at h
  | some z =>
   simp [hy] at h; obtain ⟨rfl, rfl, rfl⟩ := h
   obtain ⟨w', h1, h2⟩ := XjG (P := P) hc hR hs hb (show Xed ctx base' t (opd σ p) (opd σ y) S = some (z.1, z.2) from hy)
   exact Xco.skip (w' := w') (by simp [execOp, hop, h1]) h2
 case nilCheck y =>
  have hy := Xa6 hs y
  split at h
  ·rename_i i off hx
   injection h with h; injection h with h1 h2; injection h2 with h2 h3; subst h1; subst h2; subst h3
   rw [hx] at hy
   have he := hy.inv_ptr.1
   exact Xco.value (v := a.eval y) (w' := w) (by simp [execOp, hop, he]) (XbE.same hR hy)
  ·rename_i cs off hx
   injection h with h; injection h with h1 h2; injection h2 with h2 h3; subst h1; subst h2; subst h3
   rw [hx] at hy
   obtain ⟨b, o', u, he, _⟩ := hy.inv_iptr
   exact Xco.value (v := a.eval y) (w' := w) (by simp [execOp, hop, he]) (XbE.same hR hy)
  ·rename_i t z hx
   injection h with h; injection h with h1 h2; injection h2 with h2 h3; subst h1; subst h2; subst h3
   rw [hx] at hy
   obtain ⟨z', he, _⟩ := hy.inv_ifc
   exact Xco.value (v := a.eval y) (w' := w) (by simp [execOp, hop, he]) (XbE.same hR hy)
  ·rename_i f as bs hx
   injection h with h; injection h with h1 h2; injection h2 with h2 h3; subst h1; subst h2; subst h3
   rw [hx] at hy
   obtain ⟨as', bs', he, _⟩ := hy.inv_fn
   exact Xco.value (v := a.eval y) (w' := w) (by simp [execOp, hop, he]) (XbE.same hR hy)
  ·cases h
 case binOp op t p q t' =>
  cases hy : XgZ ctx op t p q (opd σ p) (opd σ q) with
  | none => simp [hy] at h
  | some y =>
   simp [hy] at h; obtain ⟨rfl, rfl, rfl⟩ := h
   obtain ⟨v, h1, h2⟩ := XiF (P := P) hc (Xa6 hs p) (Xa6 hs q) hy
   refine Xco.value (v := v) (w' := w) ?_ (XbE.same hR h2)
   simp only [execOp, hop]
   rw [Sem.run_bind, h1]
   rfl
 case unOp op t p =>
  cases hy : Xtv op (opd σ p) with
  | none => simp [hy] at h
  | some y =>
   simp [hy] at h; obtain ⟨rfl, rfl, rfl⟩ := h
   obtain ⟨v, h1, h2⟩ := XjM (P := P) (w := w) (Xa6 hs p) hy
   exact Xco.value (v := v) (w' := w) (by simp [execOp, hop, h1]) (XbE.same hR h2)
 case convert s d p =>
  cases hy : Xbx ctx s d (opd σ p) S with
  | none => simp [hy] at h
  | some z =>
   simp [hy] at h; obtain ⟨rfl, rfl, rfl⟩ := h
   obtain ⟨v, w', h1, h2⟩ := Xky (P := P) hc hR (Xa6 hs p) (show Xbx ctx s d (opd σ p) S = some (z.1, z.2) from hy)
   exact Xco.value (v := v) (w' := w') (by simp [execOp, hop, h1]) h2
 case makeInterface t p =>
  split at h
  case h_2 => cases h
  rename_i ti hti
  have ht := hc.ty _ _ hti
  split at h
  ·cases h
  rename_i hni
  injection h with h; injection h with h1 h2; injection h2 with h2 h3; subst h1; subst h2; subst h3
  refine Xco.value (v := .iface t (a.eval p)) (w' := w) ?_ (XbE.same hR (.ifc _ _ _ (Xa6 hs p)))
  simp only [execOp, hop, Instr.makeInterface, Sem.run_bind, ht.run_und, Result.andThen_ok]
  cases hu : ti.und <;> first | (exfalso; exact hni _ hu) | rfl
 case makeFunc f as bs =>
  injection h with h; injection h with h1 h2; injection h2 with h2 h3; subst h1; subst h2; subst h3
  obtain ⟨a1, a2⟩ := XoN hs as
  obtain ⟨b1, b2⟩ := XoN hs bs
  exact Xco.value (v := .func f (as.map a.eval) (bs.map a.eval)) (w' := w) (by simp [execOp, hop, Instr.makeFunc]) (XbE.same hR (.fn f _ _ _ _ a1 b1 a2 b2))
 case makeSlice t l c =>
  cases hy : Xcp ctx t (opd σ l) (opd σ c) S with
  | none => simp [hy] at h
  | some z =>
   simp [hy] at h; obtain ⟨rfl, rfl, rfl⟩ := h
   obtain ⟨v, w', h1, h2⟩ := Xg9 (P := P) hc hR (Xa6 hs l) (Xa6 hs c) (show Xcp ctx t (opd σ l) (opd σ c) S = some (z.1, z.2) from hy)
   exact Xco.value (v := v) (w' := w') (by simp [execOp, hop, h1]) h2
 case slice t p lo hi mx =>
  cases hy : Xf8 ctx t (opd σ p) (lo.map (opd σ)) (hi.map (opd σ)) (mx.map (opd σ)) with
  | none => simp [hy] at h
  | some y =>
   simp [hy] at h; obtain ⟨rfl, rfl, rfl⟩ := h
   have bnd : ∀ (q : Option Operand) (d : Nat) (i : Int), XaZ (q.map (opd σ)) d = some i → (q.map a.eval = none ∧ i = d) ∨ ∃ k, q.map a.eval = some (.int k i) := by
    intro q d i hq
    refine XjJ (g := g) (w := w) (S := S) (x := q.map (opd σ)) (fun y hy => ?_) (fun hn => ?_) hq
    ·cases q with
     | none => simp at hy
     | some q => simp at hy; subst hy; exact ⟨_, rfl, Xa6 hs q⟩
    ·cases q with
     | none => rfl
     | some q => simp at hn
   obtain ⟨v, h1, h2⟩ := XjL (P := P) (mx' := mx.map a.eval) hc (Xa6 hs p) (fun d i hd => bnd lo d i hd) (fun d i hd => bnd hi d i hd) (fun hn => by cases mx with | none => rfl | some m => simp at hn) (fun d i hd => bnd mx d i hd) hy
   exact Xco.value (v := v) (w' := w) (by simp [execOp, hop, h1]) (XbE.same hR h2)
 case fieldAddr t p i =>
  cases hy : Xdm ctx t (opd σ p) i with
  | none => simp [hy] at h
  | some y =>
   simp [hy] at h; obtain ⟨rfl, rfl, rfl⟩ := h
   obtain ⟨v, h1, h2⟩ := Xg7 (P := P) hs hc hy
   exact Xco.value (v := v) (w' := w) (by simp [execOp, hop, h1]) (XbE.same hR h2)
 case field t p i =>
  split at h
  case h_2 => cases h
  rename_i fs cs hfs hcs
  split at h
  case h_2 => cases h
  rename_i f hf
  cases hy : Xbz ctx f.type cs f.offset with
  | none => simp [hy] at h
  | some y =>
   simp [hy] at h; obtain ⟨rfl, rfl, rfl⟩ := h
   obtain ⟨v, h1, h2⟩ := XjI (P := P) hs hc hfs hcs hf hy
   exact Xco.value (v := v) (w' := w) (by simp [execOp, hop, h1]) (XbE.same hR h2)
 case indexAddr t p i =>
  split at h
  case h_2 => cases h
  rename_i k m hi
  cases hy : XbW ctx t (opd σ p) m with
  | none => simp [hy] at h
  | some y =>
   simp [hy] at h; obtain ⟨rfl, rfl, rfl⟩ := h
   have hiv := Xa6 hs i
   rw [hi] at hiv
   obtain ⟨v, h1, h2⟩ := Xg8 (P := P) hc (Xa6 hs p) hiv.inv_int hy
   exact Xco.value (v := v) (w' := w) (by simp [execOp, hop, h1]) (XbE.same hR h2)
 case index t p i =>
  split at h
  case h_2 => cases h
  rename_i k m hi
  cases hy : XeE ctx t (opd σ p) m with
  | none => simp [hy] at h
  | some y =>
   simp [hy] at h; obtain ⟨rfl, rfl, rfl⟩ := h
   have hiv := Xa6 hs i
   rw [hi] at hiv
   obtain ⟨v, h1, h2⟩ := XjK (P := P) hc (Xa6 hs p) hiv.inv_int hy
   exact Xco.value (v := v) (w' := w) (by simp [execOp, hop, h1]) (XbE.same hR h2)
 case typeAssert p xt t ok =>
  cases hy : Xfw ctx (opd σ p) t ok with
  | none => simp [hy] at h
  | some y =>
   simp [hy] at h; obtain ⟨rfl, rfl, rfl⟩ := h
   obtain ⟨v, h1, h2⟩ := XiG (P := P) (xt := xt) hc (Xa6 hs p) hy
   exact Xco.value (v := v) (w' := w) (by simp [execOp, hop, h1]) (XbE.same hR h2)
 case extract p i =>
  split at h
  case h_2 => cases h
  rename_i vs hvs
  cases hy : vs[i]? with
  | none => simp [hy] at h
  | some y =>
   simp [hy] at h; obtain ⟨rfl, rfl, rfl⟩ := h
   have hp := Xa6 hs p
   rw [hvs] at hp
   obtain ⟨vs', he, h1, h2⟩ := hp.inv_tup
   have hV := h2 i _ hy
   have hlt : i < vs'.size := by have := (List.getElem?_eq_some_iff.1 hy).1; omega
   rw [Array.getD_eq_getD_getElem?, Array.getElem?_eq_getElem hlt] at hV
   exact Xco.value (v := vs'[i]) (w' := w) (by simp [execOp, hop, he, Instr.extract, Array.getElem?_eq_getElem hlt]) (XbE.same hR hV)
 case call c =>
  exact XhQ hc hcall hR hgl hs hop h
 all_goals cases h
theorem Xhe (hc : Xbl P ctx) (hR : R S w g base bd) (hs : XbR g w S.length σ a.tmps) {o : Oper} {x : PV} {S' : List SObj}
  (h : Xbu ctx σ S o.op = some (x, S')) : Xco P o a w (fun v w' => XbE base bd S g w x S' false v w') := by
 cases hop : o.op <;> rw [hop] at h <;> simp only [Xbu] at h
 case makeSlice t l c =>
  split at h
  case h_2 => cases h
  rename_i ti k n k' m hti hl hcc
  split at h
  case h_2 => cases h
  rename_i e hund
  split at h
  case h_2 => cases h
  rename_i ei hei
  split at h
  case isFalse => cases h
  rename_i hn
  injection h with h; injection h with h1 h2; subst h1; subst h2
  have hlv := Xa6 hs l
  have hcv := Xa6 hs c
  rw [hl] at hlv
  rw [hcc] at hcv
  obtain ⟨v, w', h1, h2⟩ := XgA (P := P) hc hR hlv hcv hti hund hei hn
  exact Xco.value (v := v) (w' := w') (by simp [execOp, hop, h1]) h2
 case alloc t =>
  split at h
  case h_2 => cases h
  rename_i ti hti
  split at h
  case h_3 => cases h
  ·rename_i n e hund
   split at h
   case h_2 => cases h
   rename_i ei hei
   split at h
   case isFalse => cases h
   rename_i hn
   injection h with h; injection h with h1 h2; subst h1; subst h2
   obtain ⟨v, w', h1, h2⟩ := XjO (P := P) hc hR hti hund hei hn.1 hn.2.1 hn.2.2
   exact Xco.value (v := v) (w' := w') (by simp [execOp, hop, h1]) h2
  ·split at h
   case isFalse => cases h
   rename_i hz0
   injection h with h; injection h with h1 h2; subst h1; subst h2
   obtain ⟨v, w', h1, h2⟩ := Xlz (P := P) hc hR hti hz0
   exact Xco.value (v := v) (w' := w') (by simp [execOp, hop, h1]) h2
 case buildSlice t m ps =>
  split at h
  case h_2 => cases h
  rename_i ti hti
  split at h
  case h_2 => cases h
  rename_i e hund
  split at h
  case h_2 => cases h
  rename_i ei xs hei hy
  injection h with h; injection h with h1 h2; subst h1; subst h2
  obtain ⟨v, w', h1, h2⟩ := XfJ (P := P) hc hR hti hund hei (qs := ps.map fun p => (p.1, a.eval p.2)) (by simpa using Xdq hs ps.toList) hy
  exact Xco.value (v := v) (w' := w') (by simp [execOp, hop, h1]) h2
 case convert s d p =>
  split at h
  case h_2 => cases h
  rename_i xs id S1 hy
  injection h with h; injection h with h1 h2; subst h1; subst h2
  obtain ⟨v, w', h1, h2⟩ := Xkz (P := P) hc hR (Xa6 hs p) hy
  exact Xco.value (v := v) (w' := w') (by simp [execOp, hop, h1]) h2
 case call c =>
  split at h
  case h_2 => cases h
  rename_i s y ys hcal hy
  obtain ⟨o1, o2⟩ := XoN hs c.args
  have arg0 : ∀ (k : Nat) (y : PV), (c.args.toList.map (opd σ))[k]? = some y → ∃ y', (c.args.map a.eval)[k]? = some y' ∧ V g w S.length y y' := by
   intro k y hk
   have hl : k < (c.args.map a.eval).size := by have := (List.getElem?_eq_some_iff.1 hk).1; omega
   have := o2 k y hk
   rw [Array.getD_eq_getD_getElem?, Array.getElem?_eq_getElem hl] at this
   exact ⟨_, Array.getElem?_eq_getElem hl, this⟩
  obtain ⟨s', h1, h2⟩ := arg0 0 s (by rw [hy]; rfl)
  obtain ⟨y', h3, h4⟩ := arg0 1 y (by rw [hy]; rfl)
  -- nothing appended: as it was
  have plain : ∀ (s0 : PV), s = s0 → Xbi ctx c.argTypes s0 y S = some (x, S') → Xco P o a w (fun v w' => XbE base bd S g w x S' false v w') := by
   rintro s0 rfl hl
   obtain ⟨v, w', h5, h6⟩ := XfH (P := P) (ty := o.type) hc hR h1 h3 h2 h4 hl
   exact Xco.value (v := v) (w' := w') (by simp [execOp, hop, resolve, hcal, invoke, builtin, h5]) h6
  have born : ∀ (A : Option Addr), s' = .slice A 0 0 → Xd1 y ≠ some [] → Xbu.bornApp ctx c.argTypes y S = some (x, S') → Xco P o a w (fun v w' => XbE base bd S g w x S' false v w') := by
   rintro A rfl hne hl
   obtain ⟨v, w', h5, h6⟩ := XiI (P := P) (ty := o.type) hc hR h1 h3 h4 hl hne
   exact Xco.value (v := v) (w' := w') (by simp [execOp, hop, resolve, hcal, invoke, builtin, h5]) h6
  split at h
  ·split at h
   ·exact plain _ rfl h
   ·rename_i hne
    exact born none h2.inv_nils (fun he => hne he) h
  ·split at h
   ·exact plain _ rfl h
   ·rename_i hne
    obtain ⟨A, hA⟩ := h2.inv_emp
    exact born (some A) hA (fun he => hne he) h
  ·exact plain _ rfl h
 all_goals cases h
theorem V.ghost {g g' : G} {w : World} {x : PV} {v : Value} (h : V g w 0 x v) (hpp : g'.pp = g.pp) : V g' w 0 x v := by
 induction h with
 | poison v => exact .poison v
 | bool b => exact .bool b
 | int k i => exact .int k i
 | str s => exact .str s
 | nilp => exact .nilp
 | ptr id off h ho => omega
 | iptr cells off b o u h1 h2 _ h4 ih => exact .iptr cells off b o u (by rw [hpp]; exact h1) h2 ih h4
 | nils => exact .nils
 | lst xs tag b o cap sz u hc h1 h2 h3 _ h5 ht ih =>
  refine .lst xs tag b o cap sz u hc h1 (by rw [hpp]; exact h2) h3 ih h5 ?_
  cases tag with
  | none => trivial
  | full => exact ht
  | tip id => exact absurd ht.1 (by omega)
 | lst0 a => exact .lst0 a
 | hsl id off len cap h ho hc => omega
 | emp a => exact .emp a
 | rsl id len h ho hc => omega
 | nilm => exact .nilm
 | map id h ho => omega
 | nilf => exact .nilf
 | fn f as bs as' bs' ha hb _ _ ih1 ih2 => exact .fn f as bs as' bs' ha hb ih1 ih2
 | nili => exact .nili
 | ifc t v v' _ ih => exact .ifc t v v' ih
 | agg cs cs' hl _ h2 ih => exact .agg cs cs' hl ih h2
 | tup cs cs' hl _ ih => exact .tup cs cs' hl ih
theorem XfK {S S1 : List SObj} {w w1 : World} {g g1 : G} {base b1 : Nat} {bd bd1 : Nat → Nat} (hR : R S w g base bd) (h1 : R S1 w1 g1 b1 bd1)
  (ev1 : Evo 0 { g with fix := fun k => k < w.heap.size } w g1 w1) {x : PV} {v : Value} (hV : V g1 w1 0 x v) : XbE base bd S g w x S false v w1 := by
 have low : ∀ k, k < w.heap.size → w1.heap[k]? = w.heap[k]? := ev1.low
 have plow : ∀ k, k < w.heap.size → g1.pp k = g.pp k := ev1.pplow
 let g2 : G := { fix := g.fix, pp := g1.pp, loc := g.loc, hw := g.hw, tsz := g.tsz, obj := g.obj }
 have evo : Evo S.length g w g2 w1 := by
  refine ⟨ev1.pp, ev1.cell, fun _ _ => rfl, fun _ _ _ => rfl, fun _ _ => rfl, fun _ _ => Nat.le_refl _, fun _ _ _ => rfl, ?_, ev1.size, rfl, fun k hk => low k (hR.hfix k hk), fun k hk => plow k (hR.hfix k hk), ev1.os, ev1.tape, ev1.output⟩
  intro id cap _ _ _ ht
  have hlt := ht.lt
  exact XhD.heap (g := g) rfl rfl rfl (plow _ hlt) (low _ hlt) ht
 refine ⟨g2, (V.ghost (g' := g2) hV rfl).mono (Nat.zero_le _), ?_, evo, Nat.le_refl _⟩
 simp only [Bool.false_eq_true, if_false]
 refine ⟨hR.hbase, hR.hbd, fun k hk => by have := hR.hfix k hk; have := ev1.size; omega, h1.hpp, fun id o ho => ?_, hR.inj⟩
 have hl := hR.live id o ho
 refine hl.evo (evo.mono (XcJ hR id)) rfl rfl rfl rfl (fun hd _ => ?_)
 have hlt := hl.loc_lt hd
 exact ⟨low _ hlt, plow _ hlt⟩
theorem XjQ {op : Op} {c : Go.Call} (h : XeG op = some c) : op = .call c ∧ ∃ f, c.callee = .value f := by
 unfold XeG at h
 split at h
 ·split at h
  ·rename_i f hf
   injection h with h; subst h
   exact ⟨rfl, f, hf⟩
  ·cases h
 ·cases h
theorem XhS (hcall : Xcb P ctx call) (hR : R S w g base bd) (hgl : Gl ctx w g) (hs : XbR g w S.length σ a.tmps) {o : Oper} {c : Go.Call} (hop : o.op = .call c) {x : PV}
  (h : XcP call σ c = some x) : Xco P o a w (fun v w' => XbE base bd S g w x S false v w') := by
 obtain ⟨o1, o2⟩ := XoN hs c.args
 unfold XcP at h
 split at h
 case h_2 => cases h
 rename_i f hcal
 split at h
 case h_2 => cases h
 rename_i f' cap hf
 split at h
 case isFalse => cases h
 rename_i hcl
 split at h
 case h_2 => cases h
 rename_i v1 S1 e1 hcall1
 split at h
 case isFalse => cases h
 rename_i hvc
 injection h with h; subst h
 have hfv := Xa6 hs f
 rw [hf] at hfv
 obtain ⟨as', bs', he, ha, hb, _, hbV⟩ := hfv.inv_fn
 have has : as' = #[] := by simpa using ha.symm
 subst has
 have hargs : ∀ (i : Nat) (c' : PV), (c.args.toList.map (opd σ) ++ cap)[i]? = some c' → V g w S.length c' ((c.args.map a.eval ++ bs').getD i undef) := by
  intro i c' hi
  rw [Array.getD_eq_getD_getElem?]
  rcases Nat.lt_or_ge i (c.args.toList.map (opd σ)).length with hl | hl
  ·rw [List.getElem?_append_left hl] at hi
   rw [Array.getElem?_append_left (by omega), ← Array.getD_eq_getD_getElem?]
   exact o2 i c' hi
  ·rw [List.getElem?_append_right hl] at hi
   rw [Array.getElem?_append_right (by omega), ← o1, ← Array.getD_eq_getD_getElem?]
   exact hbV _ c' hi
 have hR0 : R [] w { g with fix := fun k => k < w.heap.size } 0 (fun _ => 0) :=
  ⟨Nat.le_refl _, fun _ _ => Nat.le_refl _, fun _ hk => hk, hR.hpp, fun id o ho => by simp at ho, fun i j o p ho => by simp at ho⟩
 obtain ⟨k1, k2⟩ := hcall f' _ [] v1 S1 e1 hcall1 w { g with fix := fun k => k < w.heap.size } 0 (fun _ => 0) (c.args.map a.eval ++ bs') hR0 hgl.all (by simp at o1 ⊢; omega) (fun i d hi => by
  have hcm := Xb6 hcl hi
  rw [List.getElem?_map] at hi
  cases hi' : (c.args.toList.map (opd σ) ++ cap)[i]? with
  | none => rw [hi'] at hi; cases hi
  | some z => rw [hi'] at hi; injection hi with hi; subst hi; exact ((hargs i z hi').strip.clean hcm).ghost rfl)
 refine Xco.enter (f := f') (args := c.args.map a.eval ++ bs') (w' := w) ?_ (k2.mono ?_)
 ·have := Xcb.run (w := w) (cargs := c.args.map a.eval ++ bs') k1
  simp only [execOp, hop, resolve, hcal, he, Deferred.ofValue, Sem.run_bind, Sem.run_pure, Result.andThen_ok, invoke, Array.empty_append]
  exact this
 ·rintro en w' ⟨rv, rfl, g', q1, q2, q3, q4⟩
  exact ⟨rv, rfl, XfK hR q2 q3 (q1.strip.clean hvc)⟩
theorem XhT (hc : Xbl P ctx) (hcall : Xcb P ctx call) (hR : R S w g base bd) (hgl : Gl ctx w g) (hs : XbR g w S.length σ a.tmps) {o : Oper} {x : PV} {S' : List SObj}
  (h : Xd2 ctx call σ S o.op = some (x, S')) : Xco P o a w (fun v w' => XbE base bd S g w x S' false v w') := by
 unfold Xd2 at h
 split at h
 ·rename_i c hcv
  cases hq : XcP call σ c with
  | none => rw [hq] at h; cases h
  | some u =>
   rw [hq] at h
   simp only [Option.map_some, Option.some.injEq, Prod.mk.injEq] at h
   obtain ⟨rfl, rfl⟩ := h
   exact XhS hcall hR hgl hs (XjQ hcv).1 hq
 ·exact Xhe hc hR hs h
theorem Xhf (hc : Xbl P ctx) (hcall : Xcb P ctx call) (hR : R S w g base bd) (hgl : Gl ctx w g) (hs : XbR g w S.length σ a.tmps) (hb : base = 0 ∨ base = base') {o : Oper} {p : POp} (hop : p.op = o.op) {x : PV} {S' : List SObj} {e : Bool}
  (h : XaM ctx call base' σ S p = some (x, S', e)) : Xco P o a w (fun v w' => XbE base bd S g w x S' e v w') := by
 unfold XaM at h
 obtain ⟨g1, r1, e1, s1⟩ := XcE (Xa5 ctx σ p.op) σ S g hR hs
 have hlen := XdO (Xa5 ctx σ p.op) σ S
 generalize XbD (Xa5 ctx σ p.op) σ S = q at h r1 s1 hlen
 obtain ⟨σ1, S1⟩ := q
 simp only at h r1 s1 hlen
 rw [← hlen] at s1
 have XtY : ∀ {v : Value} {w' : World}, XbE base bd S1 g1 w x S' e v w' → XbE base bd S g w x S' e v w' := by
  rintro v w' ⟨g2, k1, k2, k3, k4⟩
  rw [hlen] at k3 k4
  exact ⟨g2, k1, k2, e1.trans k3, k4⟩
 have mono : ∀ {Post Post' : Value → World → Prop}, Xco P o a w Post → (∀ v w', Post v w' → Post' v w') → Xco P o a w Post' := by
  intro Post Post' h1 h2 next Q hn
  exact h1 next Q (fun v w' hp => hn v w' (h2 v w' hp))
 rw [hop] at h
 split at h
 ·cases hy : Xd2 ctx call σ1 S1 o.op with
  | none => rw [hy] at h; cases h
  | some z =>
   rw [hy] at h
   simp only [Option.map_some, Option.some.injEq, Prod.mk.injEq] at h
   obtain ⟨rfl, rfl, rfl⟩ := h
   exact mono (XhT hc hcall r1 (hgl.evo e1) s1 hy) (fun v w' => XtY)
 ·exact mono (XhR hc hcall r1 (hgl.evo e1) s1 hb h) (fun v w' => XtY)
end
end Go.Pam
namespace Go.Pam
theorem XhU : ∀ (x y : List (PV × PV)), XeY x y = true → x = y
 | [], y, h => by cases y <;> simp_all [XeY]
 | (a, b) :: xs, y, h => by
  cases y with
  | nil => simp [XeY] at h
  | cons q ys =>
   obtain ⟨c, d⟩ := q
   simp only [XeY, Bool.and_eq_true] at h
   rw [PV.same_eq a _ h.1.1, PV.same_eq b _ h.1.2, XhU xs _ h.2]
theorem Xhg : ∀ (x y : List SObj), Xcn x y = true → x = y
 | [], y, h => by cases y <;> simp_all [Xcn]
 | x :: xs, y, h => by
  cases y with
  | nil => simp [Xcn] at h
  | cons y ys =>
   simp only [Xcn, Bool.and_eq_true] at h
   rw [Xhg xs _ h.2]
   have h1 := h.1
   cases x <;> cases y <;> simp only [SObj.same, Bool.and_eq_true, reduceCtorEq] at h1
   ·rw [Xcs _ _ h1]
   ·rw [XhU _ _ h1]
   ·rw [beq_iff_eq.1 h1.1, beq_iff_eq.1 h1.2]
   ·rfl
   ·rw [Xcs _ _ h1.1.1, beq_iff_eq.1 h1.1.2, beq_iff_eq.1 h1.2]
   ·rw [beq_iff_eq.1 h1.1.1, beq_iff_eq.1 h1.1.2, beq_iff_eq.1 h1.2]
   ·rw [beq_iff_eq.1 h1.1, beq_iff_eq.1 h1.2]
theorem XhV {σ σ' : Nat → PV} {x : Operand} (h : ∀ t, x = .tmp t → σ t = σ' t) : opd σ x = opd σ' x := by
 cases x <;> first | rfl | exact h _ rfl
theorem XhW {ctx : Ctx} {call : Xcm} {σ σ' : Nat → PV} {S : List SObj} (c : Go.Call) (h : ∀ x ∈ c.operands, opd σ x = opd σ' x) : Xct ctx call σ S c = Xct ctx call σ' S c := by
 have hargs : c.args.toList.map (opd σ) = c.args.toList.map (opd σ') := List.map_congr_left fun x hx => h x (by simp [Call.operands]; exact .inr (by simpa using hx))
 unfold Xct
 rw [hargs]
 cases hc : c.callee with
 | value f => have hf : opd σ f = opd σ' f := h f (by simp [Call.operands, hc]); simp only [hf]
 | invoke r m => have hr : opd σ r = opd σ' r := h r (by simp [Call.operands, hc]); simp only [hr]
 | builtin b => cases b <;> rfl
theorem XhX {ctx : Ctx} {call : Xcm} {base : Nat} {σ σ' : Nat → PV} {S : List SObj} (op : Op) (h : ∀ x ∈ op.operands, opd σ x = opd σ' x) : XaL ctx call base σ S op = XaL ctx call base σ' S op := by
 have pairs : ∀ ps : Array (Nat × Operand), (∀ x ∈ ps.map (·.2), opd σ x = opd σ' x) →
   (ps.toList.map fun p => (p.1, opd σ p.2)) = (ps.toList.map fun p => (p.1, opd σ' p.2)) := fun ps hp =>
  List.map_congr_left fun p hm => by
   rw [hp p.2 (Array.mem_map.2 ⟨p, by simpa using hm, rfl⟩)]
 cases op <;> simp only [Op.operands] at h <;> simp only [XaL]
 case build t ps => rw [pairs ps fun x hx => h x (by simpa using hx)]
 case buildSlice t n ps => rw [pairs ps fun x hx => h x (by simpa using hx)]
 case makeFunc fn first captured =>
  rw [List.map_congr_left (l := first.toList) fun x hx => h x (by simp at hx; simp [hx]), List.map_congr_left (l := captured.toList) fun x hx => h x (by simp at hx; simp [hx])]
 case call c => exact XhW c h
 case slice t x lo hi mx => cases lo <;> cases hi <;> cases mx <;> simp_all
 all_goals (first | rfl | (simp_all; done))
theorem XiJ {ctx : Ctx} {σ : Nat → PV} (op : Op) : ∀ x ∈ Xa5 ctx σ op, x ∈ op.operands := by
 intro x hx
 cases op <;> simp only [Xa5, Op.operands] at hx ⊢ <;> try (simp at hx; done)
 all_goals try (simp_all; done)
 case call c =>
  have harg : ∀ y ∈ c.args.toList, y ∈ c.operands := fun y hy => by simp [Call.operands]; exact .inr (by simpa using hy)
  cases hc : c.callee with
  | value f =>
   simp only [hc] at hx
   split at hx
   ·split at hx
    ·cases hx
    ·exact harg x hx
   ·exact harg x hx
  | invoke r m => simp only [hc] at hx; exact harg x hx
  | builtin b =>
   simp only [hc] at hx
   cases b <;> simp only at hx <;> first | (cases hx; done) | exact harg x (List.mem_of_mem_drop hx)
theorem Xhh {ctx : Ctx} {σ σ' : Nat → PV} (op : Op) (h : ∀ x ∈ op.operands, opd σ x = opd σ' x) : Xa5 ctx σ op = Xa5 ctx σ' op := by
 cases op <;> try rfl
 case call c =>
  simp only [Xa5]
  cases hc : c.callee with
  | value f =>
   have hf : opd σ f = opd σ' f := h f (by simp [Op.operands, Call.operands, hc])
   simp only [hf]
  | invoke r m => rfl
  | builtin b => cases b <;> rfl
theorem XcF {L : List Operand} : ∀ (xs : List Operand) (σ σ' : Nat → PV) (S : List SObj), (∀ x ∈ xs, x ∈ L) → (∀ x ∈ L, opd σ x = opd σ' x) →
  (XbD xs σ S).2 = (XbD xs σ' S).2 ∧ ∀ x ∈ L, opd (XbD xs σ S).1 x = opd (XbD xs σ' S).1 x
 | [], _, _, _, _, h => ⟨rfl, h⟩
 | .tmp t :: xs, σ, σ', S, hx, h => by
  have ht : σ t = σ' t := h (.tmp t) (hx _ List.mem_cons_self)
  simp only [XbD, ht]
  split
  case h_2 => exact XcF xs σ σ' S (fun x hm => hx x (List.mem_cons_of_mem _ hm)) h
  refine XcF xs _ _ _ (fun x hm => hx x (List.mem_cons_of_mem _ hm)) (fun x hm => ?_)
  cases x with
  | tmp s =>
   have := h (.tmp s) hm
   simp only [opd, upd] at this ⊢
   split
   ·rfl
   ·exact this
  | const v => rfl
  | global i => rfl
  | func f => rfl
 | .const _ :: xs, σ, σ', S, hx, h => XcF xs σ σ' S (fun x hm => hx x (List.mem_cons_of_mem _ hm)) h
 | .global _ :: xs, σ, σ', S, hx, h => XcF xs σ σ' S (fun x hm => hx x (List.mem_cons_of_mem _ hm)) h
 | .func _ :: xs, σ, σ', S, hx, h => XcF xs σ σ' S (fun x hm => hx x (List.mem_cons_of_mem _ hm)) h
theorem Xhi {ctx : Ctx} {σ σ' : Nat → PV} {S : List SObj} (op : Op) (h : ∀ x ∈ op.operands, opd σ x = opd σ' x) : Xbu ctx σ S op = Xbu ctx σ' S op := by
 have pairs : ∀ ps : Array (Nat × Operand), (∀ x ∈ ps.map (·.2), opd σ x = opd σ' x) →
   (ps.toList.map fun p => (p.1, opd σ p.2)) = (ps.toList.map fun p => (p.1, opd σ' p.2)) := fun ps hp =>
  List.map_congr_left fun p hm => by
   rw [hp p.2 (Array.mem_map.2 ⟨p, by simpa using hm, rfl⟩)]
 cases op <;> simp only [Op.operands] at h <;> simp only [Xbu]
 case buildSlice t n ps => rw [pairs ps fun x hx => h x (by simpa using hx)]
 case call c =>
  have hargs : c.args.toList.map (opd σ) = c.args.toList.map (opd σ') := List.map_congr_left fun x hx => h x (by simp [Call.operands]; exact .inr (by simpa using hx))
  rw [hargs]
 all_goals (first | rfl | (simp_all; done))
theorem XhY {ctx : Ctx} {call : Xcm} {σ σ' : Nat → PV} {S : List SObj} (op : Op) (h : ∀ x ∈ op.operands, opd σ x = opd σ' x) : Xd2 ctx call σ S op = Xd2 ctx call σ' S op := by
 unfold Xd2
 split
 ·rename_i c hc
  have hp : XcP call σ c = XcP call σ' c := by
   have hop : op = .call c := by
    unfold XeG at hc
    split at hc
    ·split at hc
     ·injection hc with hc; rw [hc]
     ·cases hc
    ·cases hc
   subst hop
   unfold XcP
   split
   ·rename_i f hf
    rw [h f (by simp [Op.operands, Call.operands, hf])]
    have hargs : c.args.toList.map (opd σ) = c.args.toList.map (opd σ') := List.map_congr_left fun x hx => h x (by simp [Op.operands, Call.operands]; exact .inr (by simpa using hx))
    rw [hargs]
   ·rfl
  rw [hp]
 ·exact Xhi op h
theorem Xew {ctx : Ctx} {call : Xcm} {base : Nat} {σ σ' : Nat → PV} {S : List SObj} (p : POp) (h : ∀ x ∈ p.op.operands, opd σ x = opd σ' x) : XaM ctx call base σ S p = XaM ctx call base σ' S p := by
 unfold XaM
 rw [Xhh p.op h]
 obtain ⟨h1, h2⟩ := XcF (L := p.op.operands.toList) (Xa5 ctx σ' p.op) σ σ' S (fun x hx => by simpa using XiJ p.op x hx) (fun x hx => h x (by simpa using hx))
 have h2 : ∀ x ∈ p.op.operands, opd (XbD (Xa5 ctx σ' p.op) σ S).1 x = opd (XbD (Xa5 ctx σ' p.op) σ' S).1 x := fun x hx => h2 x (by simpa using hx)
 simp only
 rw [h1, XhY p.op h2, XhX p.op h2]
theorem Xea {σ σ' : Nat → PV} {g : Option (Nat × Bool)} (h : ∀ t w, g = some (t, w) → σ t = σ' t) : XaE σ g = XaE σ' g := by
 cases g with
 | none => rfl
 | some q => obtain ⟨t, w⟩ := q; simp only [XaE, h t w rfl]
theorem Xfc {p : POp} {t : Nat} (h : .tmp t ∈ p.op.operands) : t ∈ p.looks :=
 List.mem_append_left _ (List.mem_filterMap.2 ⟨.tmp t, by simpa using h, rfl⟩)
theorem Xd7 {p : POp} {t : Nat} {w : Bool} (h : p.guard = some (t, w)) : t ∈ p.looks := by
 unfold POp.looks
 rw [h]
 exact List.mem_append_right _ (by simp)
section
variable {ctx : Ctx} {call : Xcm} {fr : Fr} {S : List SObj}
def Xex (ctx : Ctx) (call : Xcm) (fr : Fr) (S : List SObj) (p : POp) (σ : Nat → PV) (v : PV) : Prop :=
 XaS fr.ntmps p.dst = true ∧ ((XaE σ p.guard = some true ∧ XaM ctx call fr.base σ S p = some (v, S, false)) ∨ (XaE σ p.guard = some false ∧ v = .tup []))
theorem Xex.congr {p : POp} {σ σ' : Nat → PV} {v : PV} (h : Xex ctx call fr S p σ v) (hs : ∀ t ∈ p.looks, σ t = σ' t) : Xex ctx call fr S p σ' v := by
 have hw : XaE σ p.guard = XaE σ' p.guard := Xea fun t w hg => hs t (Xd7 hg)
 have he : XaM ctx call fr.base σ S p = XaM ctx call fr.base σ' S p := Xew _ fun x hx => XhV fun t ht => hs t (Xfc (by rw [← ht]; exact hx))
 unfold Xex at *
 rw [← hw, ← he]; exact h
def lex : List POp → List PV → (Nat → PV) → Nat → Nat → PV
 | p :: l, v :: vs, σ, k + 1 => lex l vs (upd σ p.dst v) k
 | _, _, σ, _ => σ
theorem XgJ : ∀ (l : List POp) (σ σ' : Nat → PV), XbF ctx call fr S l σ = some σ' →
  ∃ vs : List PV, vs.length = l.length ∧ lex l vs σ l.length = σ' ∧ ∀ (i : Nat) (p : POp), l[i]? = some p → Xex ctx call fr S p (lex l vs σ i) (vs.getD i .poison)
 | [], σ, σ', h => by
  simp only [XbF] at h
  injection h with h; subst h
  exact ⟨[], rfl, rfl, fun i p hi => by simp at hi⟩
 | p :: l, σ, σ', h => by
  simp only [XbF] at h
  split at h
  case isFalse => cases h
  rename_i hd
  have go : ∀ v, Xex ctx call fr S p σ v → XbF ctx call fr S l (upd σ p.dst v) = some σ' →
    ∃ vs : List PV, vs.length = (p :: l).length ∧ lex (p :: l) vs σ (p :: l).length = σ' ∧ ∀ (i : Nat) (q : POp), (p :: l)[i]? = some q → Xex ctx call fr S q (lex (p :: l) vs σ i) (vs.getD i .poison) := by
   intro v hv h
   obtain ⟨vs, h1, h2, h3⟩ := XgJ l _ _ h
   refine ⟨v :: vs, by simp [h1], h2, fun i q hi => ?_⟩
   cases i with
   | zero => simp at hi; subst hi; exact hv
   | succ i => exact h3 i q (by simpa using hi)
  split at h
  ·cases h
  ·rename_i hw; exact go _ ⟨hd, .inr ⟨hw, rfl⟩⟩ h
  ·rename_i hw
   split at h
   ·cases h
   rename_i v S' e' hs
   split at h
   case isFalse => cases h
   rename_i hsame
   simp only [Bool.and_eq_true, Bool.not_eq_true'] at hsame
   have := Xhg _ _ hsame.1
   subst this
   rw [hsame.2] at hs
   exact go _ ⟨hd, .inl ⟨hw, hs⟩⟩ h
def Xmg (l : List POp) : Prop := ∀ (i j : Nat) (p q : POp) (t : Nat), l[i]? = some p → l[j]? = some q → p.dst = some t → q.dst = some t → i = j
theorem XdP {t : Nat} : ∀ (l : List POp) (vs : List PV) (σ : Nat → PV) (k : Nat), (∀ (j : Nat) (q : POp), j < k → l[j]? = some q → q.dst ≠ some t) → lex l vs σ k t = σ t
 | [], vs, σ, k, h => by simp [lex]
 | p :: l, [], σ, k, h => by simp [lex]
 | p :: l, v :: vs, σ, 0, h => by simp [lex]
 | p :: l, v :: vs, σ, k + 1, h => by
  simp only [lex]
  rw [XdP l vs _ k fun j q hj hq => h (j + 1) q (by omega) (by simpa using hq)]
  have h0 := h 0 p (by omega) rfl
  unfold upd
  cases hd : p.dst with
  | none => rfl
  | some d =>
   have : t ≠ d := by rintro rfl; exact h0 hd
   simp [this]
theorem Xey {t : Nat} : ∀ (l : List POp) (vs : List PV) (σ : Nat → PV) (k : Nat), Xmg l → vs.length = l.length → ∀ (j : Nat) (q : POp), j < k → l[j]? = some q → q.dst = some t → lex l vs σ k t = vs.getD j .poison
 | [], vs, σ, k, ho, hl, j, q, hj, hq, hd => by simp at hq
 | p :: l, [], σ, k, ho, hl, j, q, hj, hq, hd => by simp at hl
 | p :: l, v :: vs, σ, 0, ho, hl, j, q, hj, hq, hd => by omega
 | p :: l, v :: vs, σ, k + 1, ho, hl, j, q, hj, hq, hd => by
  simp only [lex]
  have ho' : Xmg l := fun i j p q t hi hj hp hq => by
   have := ho (i + 1) (j + 1) p q t (by simpa using hi) (by simpa using hj) hp hq
   omega
  cases j with
  | zero =>
   simp at hq; subst hq
   rw [XdP l vs _ k fun j' q' hj' hq' hd' => by have := ho 0 (j' + 1) p q' t rfl (by simpa using hq') hd hd'; omega]
   simp [upd, hd]
  | succ j =>
   rw [Xey l vs _ k ho' (by simpa using hl) j q (by omega) (by simpa using hq) hd]
   simp
def XeM : List POp → List PV → (Nat → Bool) → Nat → (Nat → PV) → Nat → PV
 | p :: l, v :: vs, L, k, σ => XeM l vs L (k + 1) (if L k then upd σ p.dst v else σ)
 | _, _, _, _, σ => σ
theorem XbV {t : Nat} : ∀ (l : List POp) (vs : List PV) (L : Nat → Bool) (k : Nat) (σ : Nat → PV), (∀ (j : Nat) (q : POp), L (k + j) = true → l[j]? = some q → q.dst ≠ some t) → XeM l vs L k σ t = σ t
 | [], vs, L, k, σ, h => by simp [XeM]
 | p :: l, [], L, k, σ, h => by simp [XeM]
 | p :: l, v :: vs, L, k, σ, h => by
  simp only [XeM]
  rw [XbV l vs L (k + 1) _ fun j q hj hq => h (j + 1) q (by rw [← hj]; congr 1; omega) (by simpa using hq)]
  split
  ·rename_i hL
   have h0 := h 0 p hL rfl
   unfold upd
   cases hd : p.dst with
   | none => rfl
   | some d =>
    have : t ≠ d := by rintro rfl; exact h0 hd
    simp [this]
  ·rfl
theorem Xci {t : Nat} : ∀ (l : List POp) (vs : List PV) (L : Nat → Bool) (k : Nat) (σ : Nat → PV), Xmg l → vs.length = l.length → ∀ (j : Nat) (q : POp), L (k + j) = true → l[j]? = some q → q.dst = some t → XeM l vs L k σ t = vs.getD j .poison
 | [], vs, L, k, σ, ho, hl, j, q, hj, hq, hd => by simp at hq
 | p :: l, [], L, k, σ, ho, hl, j, q, hj, hq, hd => by simp at hl
 | p :: l, v :: vs, L, k, σ, ho, hl, j, q, hj, hq, hd => by
  simp only [XeM]
  have ho' : Xmg l := fun i j p q t hi hj hp hq => by
   have := ho (i + 1) (j + 1) p q t (by simpa using hi) (by simpa using hj) hp hq
   omega
  cases j with
  | zero =>
   simp at hq; subst hq
   rw [XbV l vs L (k + 1) _ fun j' q' hj' hq' hd' => by have := ho 0 (j' + 1) p q' t rfl (by simpa using hq') hd hd'; omega]
   simp at hj
   simp [upd, hd, hj]
  | succ j =>
   rw [Xci l vs L (k + 1) _ ho' (by simpa using hl) j q (by rw [← hj]; congr 1; omega) (by simpa using hq) hd]
   simp
end
/-! Which come ahead of which -/
def XhZ (o : Oper) (acc : List Nat) : Nat :=
 o.after.toList.foldl (fun s e => if Region.binds .any e then s ||| 2 ^ e.on ||| acc.getD e.on 0 else s) 0
theorem XfL : ∀ (l : List Oper) (acc : List Nat), ∃ r, XaF l acc = acc ++ r ∧ r.length = l.length ∧ ∀ i o, l[i]? = some o → r[i]? = some (XhZ o ((XaF l acc).take (acc.length + i)))
 | [], acc => ⟨[], by simp [XaF], rfl, fun i o h => by simp at h⟩
 | o :: l, acc => by
  obtain ⟨r, h1, h2, h3⟩ := XfL l (acc ++ [XhZ o acc])
  have he : XaF (o :: l) acc = XaF l (acc ++ [XhZ o acc]) := rfl
  refine ⟨XhZ o acc :: r, by rw [he, h1]; simp, by simp [h2], fun i o' hi => ?_⟩
  rw [he]
  cases i with
  | zero =>
   simp at hi; subst hi
   rw [h1]; simp
  | succ i =>
   have := h3 i o' (by simpa using hi)
   simp only [List.length_append, List.length_cons, List.length_nil] at this
   simp only [List.getElem?_cons_succ]
   rw [this, show acc.length + (0 + 1) + i = acc.length + (i + 1) by omega]
theorem Xjl (acc : List Nat) (j : Nat) : ∀ (es : List Edge) (s : Nat), (es.foldl (fun s e => if Region.binds .any e then s ||| 2 ^ e.on ||| acc.getD e.on 0 else s) s).testBit j = true →
  s.testBit j = true ∨ ∃ e ∈ es, Region.binds .any e = true ∧ (j = e.on ∨ (acc.getD e.on 0).testBit j = true)
 | [], s, h => .inl h
 | e :: es, s, h => by
  simp only [List.foldl_cons] at h
  rcases Xjl acc j es _ h with h | ⟨e', h1, h2⟩
  ·split at h
   ·rename_i hb
    rw [Nat.testBit_or, Nat.testBit_or, Bool.or_eq_true, Bool.or_eq_true] at h
    rcases h with (h | h) | h
    ·exact .inl h
    ·rw [Nat.testBit_two_pow] at h
     exact .inr ⟨e, by simp, hb, .inl (by simpa using h : e.on = j).symm⟩
    ·exact .inr ⟨e, by simp, hb, .inr h⟩
   ·exact .inl h
  ·exact .inr ⟨e', by simp [h1], h2⟩
theorem Xia {l : List Oper} {i j : Nat} {o : Oper} (hi : l[i]? = some o) (h : ((XaF l []).getD i 0).testBit j = true) (hlt : ∀ e ∈ o.after.toList, Region.binds .any e = true → e.on < i) :
  ∃ e ∈ o.after.toList, Region.binds .any e = true ∧ (j = e.on ∨ ((XaF l []).getD e.on 0).testBit j = true) := by
 obtain ⟨r, h1, h2, h3⟩ := XfL l []
 have hr := h3 i o hi
 simp only [List.nil_append] at h1
 rw [h1] at h hr
 rw [List.getD_eq_getElem?_getD, hr] at h
 simp only [Option.getD_some, List.length_nil, Nat.zero_add] at h
 unfold XhZ at h
 rcases Xjl _ j _ _ h with h | ⟨e, e1, e2, e3⟩
 ·simp at h
 ·refine ⟨e, e1, e2, e3.imp id fun h => ?_⟩
  rw [h1]
  rw [List.getD_eq_getElem?_getD, List.getElem?_take] at h
  rw [if_pos (hlt e e1 e2)] at h
  rwa [List.getD_eq_getElem?_getD]
def cnt (L : Nat → Bool) : Nat → Nat
 | 0 => 0
 | k + 1 => cnt L k + if L k then 1 else 0
theorem Xmh (L : Nat → Bool) : ∀ k, cnt L k ≤ k
 | 0 => Nat.le_refl _
 | k + 1 => by have := Xmh L k; simp only [cnt]; split <;> omega
theorem Xhj (L : Nat → Bool) : ∀ k, cnt L k = k → ∀ i, i < k → L i = true
 | 0, _, i, hi => by omega
 | k + 1, h, i, hi => by
  simp only [cnt] at h
  have := Xmh L k
  split at h
  ·rename_i hk
   rcases Nat.lt_or_ge i k with hik | hik
   ·exact Xhj L k (by omega) i hik
   ·rw [show i = k by omega]; exact hk
  ·omega
theorem Xjm (L : Nat → Bool) : ∀ k, (∀ i, i < k → L i = true) → cnt L k = k
 | 0, _ => rfl
 | k + 1, h => by simp only [cnt, h k (by omega), if_true, Xjm L k fun i hi => h i (by omega)]
theorem Xhk {L L' : Nat → Bool} {i : Nat} (h0 : L i = false) (h1 : L' i = true) (h2 : ∀ j, j ≠ i → L' j = L j) : ∀ k, cnt L' k = cnt L k + if i < k then 1 else 0
 | 0 => rfl
 | k + 1 => by
  simp only [cnt, Xhk h0 h1 h2 k]
  by_cases hik : i = k
  ·subst hik; simp [h0, h1]
  ·rw [h2 k (fun h => hik h.symm)]
   by_cases hlt : i < k
   ·have h3 : i < k + 1 := by omega
    simp only [hlt, h3, if_true]; omega
   ·have h3 : ¬ i < k + 1 := by omega
    simp only [hlt, h3, if_false]; omega
theorem XcG {m : List Nat} {ops : Array Oper} : ∀ {l : List Oper} {ps : List POp}, XcK m ops l = some ps → ps.length = l.length ∧ ∀ (i : Nat) (o : Oper), l[i]? = some o → ∃ p : POp, ps[i]? = some p ∧ XiB m ops o = some p
 | [], ps, h => by
  simp only [XcK] at h; injection h with h; subst h
  exact ⟨rfl, fun i o hi => by simp at hi⟩
 | o :: l, ps, h => by
  simp only [XcK] at h
  split at h
  case h_2 => cases h
  rename_i p r hp hr
  injection h with h; subst h
  obtain ⟨h1, h2⟩ := XcG hr
  refine ⟨by simp [h1], fun i o' hi => ?_⟩
  cases i with
  | zero => simp at hi; subst hi; exact ⟨p, rfl, hp⟩
  | succ i => simpa using h2 i o' (by simpa using hi)
end Go.Pam
namespace Go.Pam
theorem Xcu {α : Type} {x : Option α} {f : α → PV} {S S' T : List SObj} {v : PV} {e : Bool} (h : (x.map fun a => (f a, S, false)) = some (v, S', e)) : (x.map fun a => (f a, T, false)) = some (v, T, false) := by
 cases x with
 | none => cases h
 | some a => simp at h ⊢; exact h.1
theorem XmC {S : List SObj} {x : SObj} (h : S ++ [x] = S) : False := by
 have := congrArg List.length h
 simp at this
theorem XjR {ctx : Ctx} {call : Xcm} {base : Nat} {σ : Nat → PV} {S S' : List SObj} {op : Op} {v : PV} {e' : Bool} (h : XaL ctx call base σ S op = some (v, S', e')) (hi : Xee σ op = true) (hS : S' = S) (T : List SObj) :
  XaL ctx call base σ T op = some (v, T, false) := by
 cases op <;> simp only [XaL] at h ⊢ <;> try exact Xcu h
 case move => injection h with h; injection h with h1 h2; rw [h1]
 case assign => injection h with h; injection h with h1 h2; rw [h1]
 case pick =>
  split at h
  ·injection h with h; injection h with h1 h2; rw [h1]
  ·cases h
 case alloc => cases hi
 case box => cases hi
 case load t a =>
  simp only [Xee] at hi
  split at hi
  case h_2 => cases hi
  rename_i cs off ha
  rw [ha] at h ⊢
  simp only [Xb2] at h ⊢
  exact Xcu h
 case store => cases hi
 case nilCheck =>
  split at h
  all_goals first | (injection h with h; injection h with h1 h2; rw [h1]) | cases h
 case convert s d x =>
  unfold Xbx at h ⊢
  cases hs : ctx.ty s with
  | none => simp [hs] at h
  | some si =>
   cases hd : ctx.ty d with
   | none => simp [hs, hd] at h
   | some di =>
    simp only [hs, hd] at h ⊢
    split at h
    ·simp at h ⊢; exact h.1
    ·simp at h ⊢; exact h.1
    ·split at h
     ·split at h
      ·simp at h
       exfalso
       rw [hS] at h
       exact XmC h.2.1
      ·cases h
     ·cases h
    ·split at h
     ·split at h
      ·rename_i x1 x2 x3 x4 x5 x6 x7 x8 x9 x10
       simp at h
       obtain ⟨a, h1, h2, _⟩ := h
       simp [h1, h2]
      ·cases h
     ·cases h
    ·split at h
     ·split at h
      ·simp at h ⊢; simp_all
      ·cases h
     ·cases h
    ·cases h
 case makeInterface t x =>
  split at h
  ·split at h
   ·cases h
   ·injection h with h; injection h with h1 h2; rw [h1]
  ·cases h
 case makeFunc => injection h with h; injection h with h1 h2; rw [h1]
 case makeSlice t l c =>
  unfold Xcp at h ⊢
  split at h
  ·split at h
   ·split at h
    ·split at h
     ·rename_i x1 x2 x3 x4 x5 x6 x7 x8 x9 x10 x11 x12 x13 x14 hc
      simp only [Option.map_some] at h
      injection h with h; injection h with h1 h2
      rw [if_pos hc]
      simp [h1]
     ·cases h
    ·cases h
   ·cases h
  ·cases h
 case field t x i =>
  split at h
  ·split at h
   ·exact Xcu h
   ·cases h
  ·cases h
 case indexAddr t x i =>
  split at h
  ·exact Xcu h
  ·cases h
 case index t x i =>
  split at h
  ·exact Xcu h
  ·cases h
 case extract x i =>
  split at h
  ·exact Xcu h
  ·cases h
 case call c =>
  unfold Xct at h ⊢
  simp only [Xee] at hi
  cases hc : c.callee with
  | value f => simp [hc] at hi
  | invoke r m => simp [hc] at hi
  | builtin b =>
   simp only [hc] at h hi ⊢
   cases b <;> simp only [Bool.false_eq_true] at hi <;> simp only at h ⊢ <;> try exact Xcu h
   split at h
   ·rename_i t x xs ht hx
    rw [hx] at hi
    split at hi
    ·cases hi
    rename_i hnm
    have e : ∀ T : List SObj, Xf9 ctx t x T = Xf9 ctx t x S := by
     intro T
     unfold Xf9
     cases ctx.ty t with
     | none => rfl
     | some ti =>
      simp only
      split <;> try rfl
      rename_i id _
      exact absurd rfl (hnm id _)
    rw [e T]
    exact Xcu h
   ·cases h
 all_goals cases h
theorem Xdd : ∀ (xs : List Operand) (σ : Nat → PV) (S : List SObj), (∀ t, notRow (σ t) = true ∨ .tmp t ∉ xs) → XbD xs σ S = ((XbD xs σ []).1, S)
 | [], _, _, _ => rfl
 | .tmp t :: xs, σ, S, h => by
  have ht : notRow (σ t) = true := (h t).resolve_right (fun hn => hn List.mem_cons_self)
  have e : ∀ T, Xg5 (σ t) T = (Xg5 (σ t) []).map fun q => (q.1, T) := by
   intro T
   unfold Xg5
   cases hv : σ t <;> first | rfl | (rw [hv] at ht; cases ht)
  have hn : ∀ q, Xg5 (σ t) [] = some q → notRow q.1 = true := by
   intro q
   unfold Xg5
   cases hv : σ t <;> intro hq <;> first | (rw [hv] at ht; cases ht; done) | (cases hq; done) | (injection hq with hq; subst hq; rfl)
  simp only [XbD]
  rw [e S]
  cases hq : Xg5 (σ t) [] with
  | none =>
   exact Xdd xs σ S fun s => (h s).imp id fun h hm => h (List.mem_cons_of_mem _ hm)
  | some q =>
   have h0 := e []
   rw [hq] at h0
   simp only [Option.map_some, Option.some.injEq] at h0
   simp only [Option.map_some]
   rw [h0]
   refine Xdd xs _ S fun s => ?_
   simp only [upd]
   split
   ·exact .inl (hn q hq)
   ·rcases h s with h | h
    ·exact .inl h
    ·exact .inr fun hm => h (List.mem_cons_of_mem _ hm)
 | .const _ :: xs, σ, S, h => Xdd xs σ S fun t => (h t).imp id fun h hm => h (List.mem_cons_of_mem _ hm)
 | .global _ :: xs, σ, S, h => Xdd xs σ S fun t => (h t).imp id fun h hm => h (List.mem_cons_of_mem _ hm)
 | .func _ :: xs, σ, S, h => Xdd xs σ S fun t => (h t).imp id fun h hm => h (List.mem_cons_of_mem _ hm)
theorem Xl0 {ctx : Ctx} {call : Xcm} {base : Nat} {σ : Nat → PV} {S S' : List SObj} {p : POp} {v : PV} {e' : Bool} (h : XaM ctx call base σ S p = some (v, S', e')) (hi : XfA ctx σ p = true) (hS : S' = S) (T : List SObj) :
  XaM ctx call base σ T p = some (v, T, false) := by
 simp only [XfA, Bool.and_eq_true, List.all_eq_true] at hi
 obtain ⟨h12, h3⟩ := hi
 have hf : ∀ T, XbD (Xa5 ctx σ p.op) σ T = ((XbD (Xa5 ctx σ p.op) σ []).1, T) := fun T => Xdd _ _ _ fun t => by
  by_cases hm : Operand.tmp t ∈ Xa5 ctx σ p.op
  ·exact .inl (h3 _ hm)
  ·exact .inr hm
 unfold XaM at h ⊢
 rw [hf] at h ⊢
 split at h12
 ·rename_i c hc
  simp only [h12, if_true, Xd2, hc, Option.map_map] at h ⊢
  cases hq : XcP call (XbD (Xa5 ctx σ p.op) σ []).1 c with
  | none => rw [hq] at h; cases h
  | some u =>
   rw [hq] at h
   simp only [Option.map_some, Function.comp, Option.some.injEq, Prod.mk.injEq] at h ⊢
   exact ⟨h.1, trivial⟩
 ·simp only [Bool.and_eq_true, Bool.not_eq_true'] at h12
  simp only [h12.1, Bool.false_eq_true, if_false] at h ⊢
  exact XjR h h12.2 hS T
section
variable {ctx : Ctx} {call : Xcm} {fr : Fr}
def Xcq (ctx : Ctx) (call : Xcm) (fr : Fr) (p : POp) (σ : Nat → PV) (v : PV) (T T' : List SObj × Bool) (all : List SObj → Prop) : Prop :=
 XaS fr.ntmps p.dst = true ∧ ((XaE σ p.guard = some false ∧ v = .tup [] ∧ T' = T) ∨
  (XaE σ p.guard = some true ∧ Xba p = true ∧ ∃ e, XaM ctx call fr.base σ T.1 p = some (v, T'.1, e) ∧ T'.2 = (T.2 || e)) ∨
  (XaE σ p.guard = some true ∧ Xba p = false ∧ T' = T ∧ ∀ S, all S → XaM ctx call fr.base σ S p = some (v, S, false)))
theorem Xcq.congr {p : POp} {σ σ' : Nat → PV} {v : PV} {T T' : List SObj × Bool} {all : List SObj → Prop} (h : Xcq ctx call fr p σ v T T' all) (hs : ∀ t ∈ p.looks, σ t = σ' t) : Xcq ctx call fr p σ' v T T' all := by
 have hw : XaE σ p.guard = XaE σ' p.guard := Xea fun t w hg => hs t (Xd7 hg)
 have he : ∀ S, XaM ctx call fr.base σ S p = XaM ctx call fr.base σ' S p := fun S => Xew _ fun x hx => XhV fun t ht => hs t (Xfc (by rw [← ht]; exact hx))
 unfold Xcq at *
 simp only [← hw, ← he]; exact h
theorem Xcq.mono {p : POp} {σ : Nat → PV} {v : PV} {T T' : List SObj × Bool} {all all' : List SObj → Prop} (h : Xcq ctx call fr p σ v T T' all) (hs : ∀ S, all' S → all S) : Xcq ctx call fr p σ v T T' all' := by
 obtain ⟨h1, h2⟩ := h
 refine ⟨h1, ?_⟩
 rcases h2 with h2 | h2 | ⟨a, b, c, d⟩
 ·exact .inl h2
 ·exact .inr (.inl h2)
 ·exact .inr (.inr ⟨a, b, c, fun S hS => d S (hs S hS)⟩)
theorem XfM : ∀ (l : List POp) (hist : List (List SObj)) (pend : List (TypeId × PV × PV)) (σ : Nat → PV) (S : List SObj) (e : Bool) (r : (Nat → PV) × List SObj × Bool), Xbh ctx call fr l hist pend σ S e = some r → Xch ctx pend S →
  ∃ (vs : List PV) (Ts : Nat → List SObj × Bool), vs.length = l.length ∧ Ts 0 = (S, e) ∧ Ts l.length = r.2 ∧ lex l vs σ l.length = r.1 ∧ (∀ j, j ≤ l.length → Xch ctx pend (Ts j).1) ∧
   ∀ (i : Nat) (p : POp), l[i]? = some p → Xcq ctx call fr p (lex l vs σ i) (vs.getD i .poison) (Ts i) (Ts (i + 1)) (fun S' => S' ∈ hist ∨ ∃ j, j ≤ l.length ∧ (Ts j).1 = S')
 | [], hist, pend, σ, S, e, r, h, hp => by
  simp only [Xbh] at h
  injection h with h; subst h
  exact ⟨[], fun _ => (S, e), rfl, rfl, rfl, rfl, fun j _ => hp, fun i p hi => by simp at hi⟩
 | p :: l, hist, pend, σ, S, e, r, h, hp => by
  simp only [Xbh] at h
  split at h
  case isFalse => cases h
  rename_i hd
  have go : ∀ (v : PV) (hist' : List (List SObj)) (pend' : List (TypeId × PV × PV)) (S' : List SObj) (e' : Bool), (∀ q ∈ pend, q ∈ pend') → Xch ctx pend' S' → (∀ T ∈ hist', T ∈ hist ∨ T = S) → (∀ T ∈ hist, T ∈ hist') → (S' ≠ S → S ∈ hist') →
    (∀ all : List SObj → Prop, (∀ T, all T → T ∈ hist ∨ T = S ∨ Xch ctx pend' T) → Xcq ctx call fr p σ v (S, e) (S', e') all) →
    Xbh ctx call fr l hist' pend' (upd σ p.dst v) S' e' = some r →
    ∃ (vs : List PV) (Ts : Nat → List SObj × Bool), vs.length = (p :: l).length ∧ Ts 0 = (S, e) ∧ Ts (p :: l).length = r.2 ∧ lex (p :: l) vs σ (p :: l).length = r.1 ∧ (∀ j, j ≤ (p :: l).length → Xch ctx pend (Ts j).1) ∧
     ∀ (i : Nat) (q : POp), (p :: l)[i]? = some q → Xcq ctx call fr q (lex (p :: l) vs σ i) (vs.getD i .poison) (Ts i) (Ts (i + 1)) (fun S' => S' ∈ hist ∨ ∃ j, j ≤ (p :: l).length ∧ (Ts j).1 = S') := by
   intro v hist' pend' S' e' hpp hp' hh' hh hSS hat h
   obtain ⟨vs, Ts, h1, h2, h3, h4, h5, h6⟩ := XfM l hist' pend' _ S' e' r h hp'
   refine ⟨v :: vs, fun j => match j with | 0 => (S, e) | j + 1 => Ts j, by simp [h1], rfl, h3, h4, fun j hj => ?_, fun i q hi => ?_⟩
   ·cases j with
    | zero => exact hp
    | succ j =>
     simp only [List.length_cons] at hj
     exact fun q hq => h5 j (by omega) q (hpp q hq)
   ·cases i with
    | zero =>
     simp at hi; subst hi
     show Xcq ctx call fr p σ v (S, e) (Ts 0) _
     rw [h2]
     refine hat _ fun T hT => ?_
     rcases hT with hT | ⟨j, hj, rfl⟩
     ·exact .inl hT
     ·cases j with
      | zero => exact .inr (.inl rfl)
      | succ j =>
       simp only [List.length_cons] at hj
       exact .inr (.inr (h5 j (by omega)))
    | succ i =>
     have h7 := h6 i q (by simpa using hi)
     refine h7.mono fun T hT => ?_
     rcases hT with hT | ⟨j, hj, rfl⟩
     ·exact .inl (hh T hT)
     ·cases j with
      | zero =>
       by_cases hs : S' = S
       ·exact .inr ⟨0, by omega, by rw [h2]; exact hs⟩
       ·exact .inl (hSS hs)
      | succ j =>
       simp only [List.length_cons] at hj
       exact .inr ⟨j, by omega, rfl⟩
  split at h
  ·cases h
  ·rename_i hw
   exact go (.tup []) hist pend S e (fun _ h => h) hp (fun T h => .inl h) (fun T h => h) (fun h => absurd rfl h) (fun all _ => ⟨hd, .inl ⟨hw, rfl, rfl⟩⟩) h
  ·rename_i hw
   split at h
   ·cases h
   rename_i v S' e' hs
   split at h
   ·rename_i hch
    split at h
    case isFalse => cases h
    rename_i hpp
    refine go v (S :: hist) pend S' (e || e') (fun _ h => h) hpp (fun T hT => ?_) (fun T hT => List.mem_cons_of_mem _ hT) (fun _ => List.mem_cons_self) (fun all _ => ⟨hd, .inr (.inl ⟨hw, hch, e', hs, rfl⟩)⟩) h
    rcases List.mem_cons.1 hT with rfl | hT
    ·exact .inr rfl
    ·exact .inl hT
   ·rename_i hch
    simp only [Bool.not_eq_true] at hch
    split at h
    case isFalse => cases h
    rename_i hsame
    simp only [Bool.and_eq_true, Bool.not_eq_true'] at hsame
    have hS := Xhg _ _ hsame.1
    split at h
    ·rename_i hin
     exact go v hist pend S e (fun _ h => h) hp (fun T h => .inl h) (fun T h => h) (fun h => absurd rfl h) (fun all _ => ⟨hd, .inr (.inr ⟨hw, hch, rfl, fun T _ => Xl0 hs hin hS T⟩)⟩) h
    ·rename_i hin
     split at h
     case h_2 => cases h
     rename_i t a hlo
     split at h
     case isFalse => cases h
     rename_i hall
     have hlv : ∃ x, p.op = .load t x ∧ opd σ x = a := by
      revert hlo
      generalize p.op = o
      intro hlo
      cases o <;> simp only [Xjg, reduceCtorEq] at hlo
      injection hlo with hlo; injection hlo with h1 h2
      subst h1
      exact ⟨_, rfl, h2⟩
     obtain ⟨x, hop, hx⟩ := hlv
     have hwr : p.wr = false := by
      unfold Xba at hch
      rw [hop] at hch
      cases hw : p.wr with
      | false => rfl
      | true => rw [hw] at hch; cases hch
     have hl : ∀ T, Xb2 ctx t a T = some v → XaM ctx call fr.base σ T p = some (v, T, false) := by
      intro T hT
      unfold XaM
      rw [hop, hwr]
      simp only [Xa5, XbD, Bool.false_eq_true, if_false, XaL, hx, hT, Option.map_some]
     have hv : Xb2 ctx t a S = some v := by
      unfold XaM at hs
      rw [hop, hwr] at hs
      simp only [Xa5, XbD, Bool.false_eq_true, if_false, XaL, hx] at hs
      cases hq : Xb2 ctx t a S with
      | none => rw [hq] at hs; cases hs
      | some y => rw [hq] at hs; simp at hs; rw [hs.1]
     refine go v hist ((t, a, v) :: pend) S e (fun q hq => List.mem_cons_of_mem _ hq) ?_ (fun T h => .inl h) (fun T h => h) (fun h => absurd rfl h) (fun all hA => ⟨hd, .inr (.inr ⟨hw, hch, rfl, fun T hT => ?_⟩)⟩) h
     ·intro q hq
      rcases List.mem_cons.1 hq with rfl | hq
      ·exact hv
      ·exact hp q hq
     ·rcases hA T hT with h1 | rfl | h1
      ·exact hl T (hall T h1)
      ·exact hl T hv
      ·exact hl T (h1 _ List.mem_cons_self)
end
end Go.Pam
namespace Go.Pam
open Go.RowKit
structure Rel (ctx : Ctx) (fr : Fr) (bd : Nat → Nat) (s : St) (g : G) (w : World) (a : Act) : Prop where
 slots : XbR g w s.2.1.length s.1 a.tmps
 size : a.tmps.size = fr.ntmps
 defers : a.defers = []
 r : R s.2.1 w g (if s.2.2 then 0 else fr.base) bd
 gl : Gl ctx w g
def Ex.to : Ex → Exit
 | .normal => .normal
 | .exit id => .exit id
 | .ret => .ret
section
variable {P : Program} {ctx : Ctx} {call : Xcm} {fr : Fr} {bd : Nat → Nat} {m : List Nat}
theorem XgK {ops : Array Oper} {o : Oper} {p : POp} (h : XiB m ops o = some p) : p.dst = o.dst ∧ p.op = o.op ∧
  ((o.guard = none ∧ p.guard = none) ∨ ∃ j want t, o.guard = some (j, want) ∧ (ops[j]?).bind (·.dst) = some t ∧ p.guard = some (t, want)) := by
 unfold XiB at h
 split at h
 ·rename_i hg
  injection h with h; subst h
  exact ⟨rfl, rfl, .inl ⟨hg, rfl⟩⟩
 ·rename_i j want hg
  split at h
  ·rename_i t ht
   injection h with h; subst h
   exact ⟨rfl, rfl, .inr ⟨j, want, t, hg, ht, rfl⟩⟩
  ·cases h
theorem XgB {g : G} {w : World} {n : Nat} {σ : Nat → PV} {tmps : Array Value} (hs : XbR g w n σ tmps) {ops : Array Oper} {o : Oper} {p : POp} {b : Bool} (hp : XiB m ops o = some p) (h : XaE σ p.guard = some b) :
  Region.wanted o (yielded ops tmps) = b := by
 obtain ⟨_, _, hg⟩ := XgK hp
 unfold Region.wanted
 rcases hg with ⟨h1, h2⟩ | ⟨j, want, t, h1, h2, h3⟩
 ·rw [h2] at h
  simp only [XaE] at h
  injection h with h; subst h
  rw [h1]
 ·rw [h3] at h
  rw [h1]
  have hv := hs t
  simp only [yielded, h2, Option.bind_some]
  simp only [XaE] at h
  split at h
  ·rename_i c hc
   injection h with h; subst h
   rw [hc] at hv
   have hv := hv.inv_bool
   rw [Array.getD_eq_getD_getElem?] at hv
   cases hx : tmps[t]? with
   | none => rw [hx] at hv; simp [undef] at hv
   | some y => rw [hx] at hv; simp at hv; subst hv; simp
  ·rename_i hc
   injection h with h; subst h
   rw [hc] at hv
   obtain ⟨cs, he, hl, _⟩ := hv.inv_tup
   rw [Array.getD_eq_getD_getElem?] at he
   cases hx : tmps[t]? with
   | none => simp
   | some y => rw [hx] at he; simp at he; subst he; simp
  ·cases h
theorem Xjn {s : St} {g : G} {w : World} {a : Act} (hr : Rel ctx fr bd s g w a) {d : Option Nat} (hd : ∀ i, d = some i → i < fr.ntmps) {x : PV} {S' : List SObj} {e' : Bool} {v : Value} {w' : World}
  (hg : XbE (if s.2.2 then 0 else fr.base) bd s.2.1 g w x S' e' v w') : ∃ g', Rel ctx fr bd (upd s.1 d x, S', s.2.2 || e') g' w' (a.put d v) ∧ Evo s.2.1.length g w g' w' ∧ s.2.1.length ≤ S'.length := by
 obtain ⟨g', h1, h2, h3, h4⟩ := hg
 refine ⟨g', ⟨?_, by rw [Xlt]; exact hr.size, by cases d <;> exact hr.defers, ?_, hr.gl.evo h3⟩, h3, h4⟩
 ·exact ((hr.slots.evo h3).mono h4).put (fun i hi => by rw [hr.size]; exact hd i hi) h1
 ·have : (if e' = true then 0 else if s.2.2 = true then 0 else fr.base) = (if (s.2.2 || e') = true then 0 else fr.base) := by
   cases e' <;> cases s.2.2 <;> rfl
  rw [← this]; exact h2
theorem Xk1 (hc : Xbl P ctx) (hcall : Xcb P ctx call) {ops : Array Oper} {o : Oper} {p : POp} (hp : XiB m ops o = some p) {s : St} {g : G} {w : World} {a : Act} (hr : Rel ctx fr bd s g w a)
  (hd : XaS fr.ntmps p.dst = true) {b : Bool} (hw : XaE s.1 p.guard = some b) {x : PV} {S' : List SObj} {e' : Bool}
  (hst : if b then XaM ctx call fr.base s.1 s.2.1 p = some (x, S', e') else x = .tup [] ∧ S' = s.2.1 ∧ e' = false) (K : Act → World → Prop) (Q : Exit → Act → World → Prop)
  (hk : ∀ g' w' a', Rel ctx fr bd (upd s.1 p.dst x, S', s.2.2 || e') g' w' a' → Evo s.2.1.length g w g' w' → s.2.1.length ≤ S'.length → K a' w') :
  if Region.wanted o (yielded ops a.tmps) then o.wp P a w K Q ∨ (o.asks P a w ∧ LetsOut Q) else K (a.put o.dst undef) w := by
 obtain ⟨p1, p2, _⟩ := XgK hp
 have hw' := XgB hr.slots hp hw
 have hd' : ∀ i, o.dst = some i → i < fr.ntmps := by
  intro i hi
  rw [p1, hi] at hd
  simpa [XaS] using hd
 cases b with
 | false =>
  rw [if_neg (by rw [hw']; simp)]
  simp only [Bool.false_eq_true, if_false] at hst
  obtain ⟨rfl, rfl, rfl⟩ := hst
  obtain ⟨g1, r1, e1, l1⟩ := Xjn (fr := fr) hr hd' (XbE.same (base := if s.2.2 then 0 else fr.base) hr.r (V.tup (g := g) (w := w) (n := s.2.1.length) [] #[] rfl (fun i c hi => by simp at hi)))
  rw [← p1] at r1
  rw [← p1]
  exact hk g1 w _ r1 e1 l1
 | true =>
  rw [if_pos hw']
  simp only [if_true] at hst
  refine .inl ?_
  refine Xhf hc hcall hr.r hr.gl hr.slots (by cases s.2.2 <;> simp) p2 hst _ _ ?_
  intro v' w' hg
  obtain ⟨g1, r1, ev1, l1⟩ := Xjn (fr := fr) hr hd' hg
  rw [← p1] at r1
  rw [← p1]
  exact hk g1 w' _ r1 ev1 l1
theorem Xei (hc : Xbl P ctx) (hcall : Xcb P ctx call) {ops : Array Oper} {Q : Exit → Act → World → Prop} : ∀ (l : List Oper) (ps : List POp) (s s' : St) (g : G) (w : World) (a : Act), XcK m ops l = some ps → XbM ctx call fr ps s.1 s.2.1 s.2.2 = some s' → Rel ctx fr bd s g w a →
  (∀ g' w' a', Rel ctx fr bd s' g' w' a' → Evo s.2.1.length g w g' w' → s.2.1.length ≤ s'.2.1.length → Q .normal a' w') → wpList P ops Q l a w
 | [], ps, s, s', g, w, a, hp, h, hr, hq => by
  simp only [XcK] at hp
  injection hp with hp; subst hp
  simp only [XbM] at h
  injection h with h; subst h
  exact hq g w a hr (Evo.refl _ _ _) (Nat.le_refl _)
 | o :: l, ps, s, s', g, w, a, hp, h, hr, hq => by
  simp only [XcK] at hp
  split at hp
  case h_2 => cases hp
  rename_i p ps' hp1 hp2
  injection hp with hp; subst hp
  simp only [XbM] at h
  split at h
  case isFalse => cases h
  rename_i hd
  unfold wpList
  split at h
  ·cases h
  ·rename_i hw
   refine Xk1 hc hcall hp1 hr hd hw (x := .tup []) (S' := s.2.1) (e' := false) (by simp) _ _ ?_
   intro g1 w1 a1 r1 e1 l1
   rw [Bool.or_false] at r1
   exact Xei hc hcall l ps' (upd s.1 p.dst (.tup []), s.2.1, s.2.2) s' g1 w1 a1 hp2 h r1 (fun g' w' a' hr' e' l' => hq g' w' a' hr' (e1.trans e') l')
  ·rename_i hw
   split at h
   ·cases h
   rename_i v S1 e1 hst
   refine Xk1 hc hcall hp1 hr hd hw (x := v) (S' := S1) (e' := e1) (by simpa using hst) _ _ ?_
   intro g1 w1 a1 r1 ev1 l1
   exact Xei hc hcall l ps' (upd s.1 p.dst v, S1, s.2.2 || e1) s' g1 w1 a1 hp2 h r1
    (fun g' w'' a' hr' e' l' => hq g' w'' a' hr' (ev1.trans (e'.mono l1)) (Nat.le_trans l1 l'))
theorem Xfd {body : St → Option (Ex × St)} {c : Code} {Q : Exit → Act → World → Prop}
  (hb : ∀ (s s' : St) (x : Ex) (g : G) (w : World) (a : Act) (Q : Exit → Act → World → Prop), body s = some (x, s') → Rel ctx fr bd s g w a →
   (∀ g' w' a', Rel ctx fr bd s' g' w' a' → Evo s.2.1.length g w g' w' → s.2.1.length ≤ s'.2.1.length → Q x.to a' w') → c.wp P Q a w) :
  ∀ (k : Nat) (s s' : St) (x : Ex) (g : G) (w : World) (a : Act), rounds body k s = some (x, s') → Rel ctx fr bd s g w a →
   (∀ g' w' a', Rel ctx fr bd s' g' w' a' → Evo s.2.1.length g w g' w' → s.2.1.length ≤ s'.2.1.length → Q x.to a' w') → Code.rounds P c Q k a w
 | 0, _, _, _, _, _, _, h, _, _ => by simp [rounds] at h
 | k + 1, s, s', x, g, w, a, h, hr, hq => by
  simp only [rounds] at h
  rw [rounds_succ]
  split at h
  ·cases h
  ·rename_i s1 h1
   refine hb s s1 .normal g w a _ h1 hr ?_
   intro g1 w1 a1 r1 e1 l1
   show Code.rounds P c Q k a1 w1
   exact Xfd hb k s1 s' x g1 w1 a1 h r1 (fun g' w' a' r' e' l' => hq g' w' a' r' (e1.trans (e'.mono l1)) (Nat.le_trans l1 l'))
  ·rename_i y s1 hne h1
   injection h with h
   injection h with h2 h3
   subst h2; subst h3
   refine hb s s1 y g w a _ h1 hr ?_
   intro g1 w1 a1 r1 e1 l1
   cases y with
   | normal => exact absurd rfl (hne)
   | exit id => exact hq g1 w1 a1 r1 e1 l1
   | ret => exact hq g1 w1 a1 r1 e1 l1
theorem XcX {ops : Array Oper} {listed : Array Bool} (hsz : listed.size = ops.size) (hlt : ∀ (i : Nat) (o : Oper), ops[i]? = some o → ∀ e ∈ o.after, Region.binds .any e = true → e.on < i) :
  ∀ i, i < ops.size → listed.getD i false = false → Region.ready .any ops listed ≠ [] := by
 intro i
 induction i using Nat.strongRecOn with
 | _ i ih =>
  intro hi hu
  by_cases hall : ∀ j, j < i → listed.getD j false = true
  ·have hmem : i ∈ Region.ready .any ops listed := by
    rw [mem_ready]
    refine ⟨?_, ops[i], by simp [hi], fun e he hb => hall _ (hlt i ops[i] (by simp [hi]) e he hb)⟩
    rw [Array.getD_eq_getD_getElem?] at hu ⊢
    rw [Array.getElem?_eq_getElem (by omega)] at hu ⊢
    exact hu
   intro h; rw [h] at hmem; cases hmem
  ·have : ∃ j, j < i ∧ listed.getD j false = false := by
    apply Classical.byContradiction
    intro hno
    apply hall
    intro j hj
    cases hc : listed.getD j false with
    | true => rfl
    | false => exact absurd ⟨j, hj, hc⟩ hno
   obtain ⟨j, hj, hju⟩ := this
   exact ih j hj (by omega) hju
theorem XjS {ops : Array Oper} {listed : Array Bool} (hsz : listed.size = ops.size) (hall : ∀ i, i < ops.size → listed.getD i false = true) : Region.ready .any ops listed = [] := by
 apply List.eq_nil_iff_forall_not_mem.2
 intro i hi
 rw [mem_ready] at hi
 obtain ⟨h1, o, h2, _⟩ := hi
 have hlt : i < ops.size := (Array.getElem?_eq_some_iff.1 h2).1
 have := hall i hlt
 rw [Array.getD_eq_getD_getElem?] at this h1
 rw [Array.getElem?_eq_getElem (by omega)] at this h1
 simp at this h1
 rw [h1] at this; cases this
theorem Xbb {listed : Array Bool} {i : Nat} (hi : i < listed.size) (j : Nat) : (listed.setIfInBounds i true).getD j false = if j = i then true else listed.getD j false := by
 rw [Array.getD_eq_getD_getElem?, Array.getD_eq_getD_getElem?, Array.getElem?_setIfInBounds]
 by_cases h : i = j
 ·subst h; simp [hi]
 ·rw [if_neg h, if_neg (fun h' => h h'.symm)]
theorem XbY (hc : Xbl P ctx) (hcall : Xcb P ctx call) {ops : Array Oper} {i : Nat} {o : Oper} {p : POp} (hi : ops[i]? = some o) (hp : XiB m ops o = some p) {s : St} {g : G} {w : World} {a : Act} (hr : Rel ctx fr bd s g w a)
  (hd : XaS fr.ntmps p.dst = true) {b : Bool} (hw : XaE s.1 p.guard = some b) {x : PV} {S' : List SObj} {e' : Bool}
  (hst : if b then XaM ctx call fr.base s.1 s.2.1 p = some (x, S', e') else x = .tup [] ∧ S' = s.2.1 ∧ e' = false) (K : Act → World → Prop) (Q : Exit → Act → World → Prop)
  (hk : ∀ g' w' a', Rel ctx fr bd (upd s.1 p.dst x, S', s.2.2 || e') g' w' a' → Evo s.2.1.length g w g' w' → s.2.1.length ≤ S'.length → K a' w') : wpOp P ops Q i K a w := by
 unfold wpOp
 rw [hi]
 exact Xk1 hc hcall hp hr hd hw hst K Q hk
theorem Xhl (hc : Xbl P ctx) (hcall : Xcb P ctx call) {ops : Array Oper} {ps : List POp} {n : Nat} (hps : XcK m ops ops.toList = some ps)
  (hlt : ∀ (i : Nat) (o : Oper), ops[i]? = some o → ∀ e ∈ o.after, Region.binds .any e = true → e.on < i)
  (hseq : ∀ (listed : Array Bool) (i : Nat), n ≤ i → i ∈ Region.ready .any ops listed → (∀ j, listed.getD j false = true → ∀ k, ((XaF ops.toList []).getD j 0).testBit k = true → listed.getD k false = true) → ∀ j, j < i → listed.getD j false = true)
  (hclo : ∀ (listed : Array Bool) (i : Nat), i ∈ Region.ready .any ops listed → (∀ j, listed.getD j false = true → ∀ k, ((XaF ops.toList []).getD j 0).testBit k = true → listed.getD k false = true) → ∀ k, ((XaF ops.toList []).getD i 0).testBit k = true → listed.getD k false = true)
  {s' : St} {Q : Exit → Act → World → Prop} {g0 : G} {w0 : World} {N : Nat} (hq : ∀ g' w' a', Rel ctx fr bd s' g' w' a' → Evo N g0 w0 g' w' → N ≤ s'.2.1.length → Q .normal a' w') :
  ∀ (fuel : Nat) (listed : Array Bool) (m : Nat) (s1 : St) (g : G) (w : World) (a : Act), listed.size = ops.size → cnt (fun i => listed.getD i false) ops.size + fuel = ops.size →
   (∀ j, listed.getD j false = true → ∀ k, ((XaF ops.toList []).getD j 0).testBit k = true → listed.getD k false = true) →
   n ≤ m → (∀ i, i < ops.size → (listed.getD i false = true ↔ i < m)) → Rel ctx fr bd s1 g w a → XbM ctx call fr (ps.drop m) s1.1 s1.2.1 s1.2.2 = some s' → Evo N g0 w0 g w → N ≤ s1.2.1.length →
   wpAny P .any ops Q fuel listed a w
 | fuel, listed, m, s1, g, w, a, hsz, hcnt, hclosed, hnm, hl, hr, hev, he, hle => by
  obtain ⟨plen, pget⟩ := XcG hps
  have hsize : ops.toList.length = ops.size := by simp
  rcases Nat.lt_or_ge m ops.size with hm | hm
  ·-- one is left
   have hun : listed.getD m false = false := by
    cases hc : listed.getD m false with
    | false => rfl
    | true => exact absurd ((hl m hm).1 hc) (by omega)
   cases fuel with
   | zero => have := Xhj _ _ (by omega) m hm; rw [hun] at this; cases this
   | succ fuel =>
    refine ⟨fun h => absurd h (XcX hsz hlt m hm hun), fun i hi => ?_⟩
    have him : i = m := by
     obtain ⟨h1, o, h2, _⟩ := mem_ready.1 hi
     have hilt : i < ops.size := (Array.getElem?_eq_some_iff.1 h2).1
     have hge : m ≤ i := by
      rcases Nat.lt_or_ge i m with h | h
      ·have := (hl i hilt).2 h
       rw [Array.getD_eq_getD_getElem?] at this h1
       rw [Array.getElem?_eq_getElem (by omega)] at this h1
       simp at this h1
       rw [h1] at this; cases this
      ·exact h
     rcases Nat.lt_or_ge m i with h | h
     ·have := hseq listed i (by omega) hi hclosed m h
      rw [hun] at this; cases this
     ·omega
    subst him
    obtain ⟨p, hp1, hp2⟩ := pget i ops[i] (by simp [hm])
    have hdrop : ps.drop i = p :: ps.drop (i + 1) := by
     have hil : i < ps.length := by omega
     rw [List.drop_eq_getElem_cons hil]
     rw [List.getElem?_eq_getElem hil] at hp1
     injection hp1 with hp1; rw [hp1]
    rw [hdrop] at hev
    simp only [XbM] at hev
    split at hev
    case isFalse => cases hev
    rename_i hd
    have next : ∀ (x : PV) (S' : List SObj) (e' : Bool), XbM ctx call fr (ps.drop (i + 1)) (upd s1.1 p.dst x) S' (s1.2.2 || e') = some s' →
      ∀ g' w' a', Rel ctx fr bd (upd s1.1 p.dst x, S', s1.2.2 || e') g' w' a' → Evo s1.2.1.length g w g' w' → s1.2.1.length ≤ S'.length → wpAny P .any ops Q fuel (listed.setIfInBounds i true) a' w' := by
     intro x S' e' hev' g' w' a' hr' he' hle'
     refine Xhl hc hcall hps hlt hseq hclo hq fuel _ (i + 1) _ g' w' a' (by simpa using hsz) ?_ ?_ (by omega) (fun j hj => ?_) hr' hev' (he.trans (he'.mono hle)) (by simp only; omega)
     ·have := Xhk (L := fun i => listed.getD i false) (L' := fun j => (listed.setIfInBounds i true).getD j false) (i := i) hun (by rw [Xbb (by omega)]; simp) (fun j hj => by rw [Xbb (by omega), if_neg hj]) ops.size
      rw [this, if_pos hm]; omega
     ·intro j hj k hk
      rw [Xbb (by omega)] at hj ⊢
      by_cases hki : k = i
      ·rw [if_pos hki]
      ·rw [if_neg hki]
       by_cases hji : j = i
       ·subst hji; exact hclo listed j hi hclosed k hk
       ·rw [if_neg hji] at hj; exact hclosed j hj k hk
     ·rw [Xbb (by omega)]
      by_cases hji : j = i
      ·simp [hji]
      ·rw [if_neg hji, hl j hj]; omega
    split at hev
    ·cases hev
    ·rename_i hw
     exact XbY hc hcall (by simp [hm]) hp2 hr hd hw (x := .tup []) (S' := s1.2.1) (e' := false) (by simp) _ _ (next _ _ _ (by rw [Bool.or_false]; exact hev))
    ·rename_i hw
     split at hev
     ·cases hev
     rename_i v S1 e1 hst
     exact XbY hc hcall (by simp [hm]) hp2 hr hd hw (x := v) (S' := S1) (e' := e1) (by simpa using hst) _ _ (next _ _ _ hev)
  ·-- none is left
   have hall : ∀ i, i < ops.size → listed.getD i false = true := fun i hi => (hl i hi).2 (by omega)
   have hfuel : fuel = 0 := by rw [Xjm _ _ hall] at hcnt; omega
   subst hfuel
   refine ⟨XjS hsz hall, ?_⟩
   rw [List.drop_eq_nil_of_le (by omega)] at hev
   simp only [XbM] at hev
   injection hev with hev; subst hev
   exact hq g w a hr he hle
theorem Xjo (hc : Xbl P ctx) (hcall : Xcb P ctx call) {ops : Array Oper} {ps : List POp} {n : Nat} (hps : XcK m ops ops.toList = some ps) (hn : n ≤ ops.size)
  (hlt : ∀ (i : Nat) (o : Oper), ops[i]? = some o → ∀ e ∈ o.after, Region.binds .any e = true → e.on < i)
  (hseq : ∀ (listed : Array Bool) (i : Nat), n ≤ i → i ∈ Region.ready .any ops listed → (∀ j, listed.getD j false = true → ∀ k, ((XaF ops.toList []).getD j 0).testBit k = true → listed.getD k false = true) → ∀ j, j < i → listed.getD j false = true)
  (hclo : ∀ (listed : Array Bool) (i : Nat), i ∈ Region.ready .any ops listed → (∀ j, listed.getD j false = true → ∀ k, ((XaF ops.toList []).getD j 0).testBit k = true → listed.getD k false = true) → ∀ k, ((XaF ops.toList []).getD i 0).testBit k = true → listed.getD k false = true)
  (hbl : ∀ i k, i < ops.size → ((XaF ops.toList []).getD i 0).testBit k = true → k < i)
  (hone : Xmg (ps.take n)) (hlook : ∀ (i j : Nat) (p q : POp) (t : Nat), i < n → j < n → i ≠ j → ps[i]? = some p → ps[j]? = some q → q.dst = some t → t ∈ p.looks → ((XaF ops.toList []).getD i 0).testBit j = true)
  {s s' : St} {vs : List PV} (hvl : vs.length = (ps.take n).length) (hvs : ∀ (i : Nat) (p : POp), (ps.take n)[i]? = some p → Xex ctx call fr s.2.1 p (lex (ps.take n) vs s.1 i) (vs.getD i .poison))
  (h2 : XbM ctx call fr (ps.drop n) (lex (ps.take n) vs s.1 (ps.take n).length) s.2.1 s.2.2 = some s')
  {Q : Exit → Act → World → Prop} {g0 : G} {w0 : World} (hq : ∀ g' w' a', Rel ctx fr bd s' g' w' a' → Evo s.2.1.length g0 w0 g' w' → s.2.1.length ≤ s'.2.1.length → Q .normal a' w') :
  ∀ (fuel : Nat) (listed : Array Bool) (g : G) (w : World) (a : Act), listed.size = ops.size → cnt (fun i => listed.getD i false) ops.size + fuel = ops.size →
   (∀ j, listed.getD j false = true → ∀ k, ((XaF ops.toList []).getD j 0).testBit k = true → listed.getD k false = true) →
   (∀ i, listed.getD i false = true → i < n) → Rel ctx fr bd (XeM (ps.take n) vs (fun i => listed.getD i false) 0 s.1, s.2.1, s.2.2) g w a → Evo s.2.1.length g0 w0 g w →
   wpAny P .any ops Q fuel listed a w
 | fuel, listed, g, w, a, hsz, hcnt, hclosed, hl, hr, he => by
  obtain ⟨plen, pget⟩ := XcG hps
  have hsize : ops.toList.length = ops.size := by simp
  have htl : (ps.take n).length = n := by simp; omega
  have tget : ∀ (i : Nat) (p : POp), (ps.take n)[i]? = some p ↔ i < n ∧ ps[i]? = some p := by
   intro i p
   rw [List.getElem?_take]
   by_cases h : i < n
   ·simp [h]
   ·simp [h]
  by_cases hall : ∀ i, i < n → listed.getD i false = true
  ·-- all of them have come
   have hmix : XeM (ps.take n) vs (fun i => listed.getD i false) 0 s.1 = lex (ps.take n) vs s.1 (ps.take n).length := by
    funext t
    by_cases ht : ∃ (j : Nat) (q : POp), (ps.take n)[j]? = some q ∧ q.dst = some t
    ·obtain ⟨j, q, hj, hd⟩ := ht
     have hjn := ((tget j q).1 hj).1
     rw [Xci _ _ _ _ _ hone hvl j q (by simpa using hall j hjn) hj hd, Xey _ _ _ _ hone hvl j q (by omega) hj hd]
    ·rw [XbV _ _ _ _ _ (fun j q _ hj hd => ht ⟨j, q, hj, hd⟩), XdP _ _ _ _ (fun j q _ hj hd => ht ⟨j, q, hj, hd⟩)]
   rw [hmix] at hr
   exact Xhl hc hcall hps hlt hseq hclo hq fuel listed n _ g w a hsz hcnt hclosed (Nat.le_refl _) (fun i hi => ⟨hl i, hall i⟩) hr h2 he (Nat.le_refl _)
  ·have : ∃ m, m < n ∧ listed.getD m false = false := by
    apply Classical.byContradiction
    intro hno
    apply hall
    intro j hj
    cases hc : listed.getD j false with
    | true => rfl
    | false => exact absurd ⟨j, hj, hc⟩ hno
   obtain ⟨m, hmn, hun⟩ := this
   cases fuel with
   | zero => have := Xhj _ _ (by omega) m (by omega); rw [hun] at this; cases this
   | succ fuel =>
    refine ⟨fun h => absurd h (XcX hsz hlt m (by omega) hun), fun i hi => ?_⟩
    obtain ⟨hiu, o, hio, _⟩ := mem_ready.1 hi
    have hilt : i < ops.size := (Array.getElem?_eq_some_iff.1 hio).1
    have hiu : listed.getD i false = false := by
     rw [Array.getD_eq_getD_getElem?] at hiu ⊢
     rw [Array.getElem?_eq_getElem (by omega)] at hiu ⊢
     exact hiu
    have hin : i < n := by
     rcases Nat.lt_or_ge i n with h | h
     ·exact h
     ·have := hseq listed i h hi hclosed m (by omega)
      rw [hun] at this; cases this
    obtain ⟨p, hp1, hp2⟩ := pget i o (by simpa using hio)
    have hpt : (ps.take n)[i]? = some p := (tget i p).2 ⟨hin, hp1⟩
    have hat := hvs i p hpt
    have hat' : Xex ctx call fr s.2.1 p (XeM (ps.take n) vs (fun i => listed.getD i false) 0 s.1) (vs.getD i .poison) := by
     refine hat.congr fun t ht => ?_
     by_cases hw : ∃ (j : Nat) (q : POp), (ps.take n)[j]? = some q ∧ q.dst = some t ∧ j ≠ i
     ·obtain ⟨j, q, hj, hd, hji⟩ := hw
      have hj' := (tget j q).1 hj
      have hb := hlook i j p q t hin hj'.1 (fun h => hji h.symm) hp1 hj'.2 hd ht
      have hjL := hclo listed i hi hclosed j hb
      rw [Xci _ _ _ _ _ hone hvl j q (by simpa using hjL) hj hd, Xey _ _ _ _ hone hvl j q (hbl i j hilt hb) hj hd]
     ·rw [XbV _ _ _ _ _ (fun j q hj hq hd => by
       by_cases hji : j = i
       ·subst hji; simp at hj; rw [Array.getD_eq_getD_getElem?] at hiu; rw [hiu] at hj; cases hj
       ·exact hw ⟨j, q, hq, hd, hji⟩), XdP _ _ _ _ (fun j q hj hq hd => hw ⟨j, q, hq, hd, by omega⟩)]
    have hmix' : upd (XeM (ps.take n) vs (fun i => listed.getD i false) 0 s.1) p.dst (vs.getD i .poison) = XeM (ps.take n) vs (fun j => (listed.setIfInBounds i true).getD j false) 0 s.1 := by
     funext t
     by_cases ht : p.dst = some t
     ·rw [Xci _ _ _ _ _ hone hvl i p (by rw [Xbb (by omega)]; simp) hpt ht]
      simp [upd, ht]
     ·have hu : upd (XeM (ps.take n) vs (fun i => listed.getD i false) 0 s.1) p.dst (vs.getD i .poison) t = XeM (ps.take n) vs (fun i => listed.getD i false) 0 s.1 t := by
       unfold upd
       cases hd : p.dst with
       | none => rfl
       | some d =>
        have : t ≠ d := by rintro rfl; exact ht hd
        simp [this]
      rw [hu]
      by_cases hw : ∃ (j : Nat) (q : POp), (ps.take n)[j]? = some q ∧ q.dst = some t ∧ listed.getD j false = true
      ·obtain ⟨j, q, hj, hd, hjL⟩ := hw
       have hji : j ≠ i := by rintro rfl; rw [hiu] at hjL; cases hjL
       rw [Xci _ _ _ _ _ hone hvl j q (by simpa using hjL) hj hd, Xci _ _ _ _ _ hone hvl j q (by rw [Xbb (by omega), Nat.zero_add, if_neg hji]; exact hjL) hj hd]
      ·rw [XbV _ _ _ _ _ (fun j q hj hq hd => hw ⟨j, q, hq, hd, by simpa using hj⟩), XbV _ _ _ _ _ (fun j q hj hq hd => by
        rw [Xbb (by omega), Nat.zero_add] at hj
        by_cases hji : j = i
        ·subst hji
         rw [hpt] at hq; injection hq with hq; subst hq
         exact ht hd
        ·rw [if_neg hji] at hj; exact hw ⟨j, q, hq, hd, hj⟩)]
    have next : ∀ g' w' a', Rel ctx fr bd (upd (XeM (ps.take n) vs (fun i => listed.getD i false) 0 s.1) p.dst (vs.getD i .poison), s.2.1, s.2.2 || false) g' w' a' → Evo s.2.1.length g w g' w' → s.2.1.length ≤ s.2.1.length → wpAny P .any ops Q fuel (listed.setIfInBounds i true) a' w' := by
     intro g' w' a' hr' he' _
     rw [hmix', Bool.or_false] at hr'
     refine Xjo hc hcall hps hn hlt hseq hclo hbl hone hlook hvl hvs h2 hq fuel _ g' w' a' (by simpa using hsz) ?_ ?_ (fun j hj => ?_) hr' (he.trans he')
     ·have := Xhk (L := fun i => listed.getD i false) (L' := fun j => (listed.setIfInBounds i true).getD j false) (i := i) hiu (by rw [Xbb (by omega)]; simp) (fun j hj => by rw [Xbb (by omega), if_neg hj]) ops.size
      rw [this, if_pos hilt]; omega
     ·intro j hj k hk
      rw [Xbb (by omega)] at hj ⊢
      by_cases hki : k = i
      ·rw [if_pos hki]
      ·rw [if_neg hki]
       by_cases hji : j = i
       ·subst hji; exact hclo listed j hi hclosed k hk
       ·rw [if_neg hji] at hj; exact hclosed j hj k hk
     ·rw [Xbb (by omega)] at hj
      by_cases hji : j = i
      ·omega
      ·rw [if_neg hji] at hj; exact hl j hj
    obtain ⟨hd, hcase⟩ := hat'
    rcases hcase with ⟨hw, hst⟩ | ⟨hw, hv⟩
    ·exact XbY hc hcall hio hp2 hr hd hw (x := vs.getD i .poison) (S' := s.2.1) (e' := false) (by simpa using hst) _ _ next
    ·exact XbY hc hcall hio hp2 hr hd hw (x := vs.getD i .poison) (S' := s.2.1) (e' := false) (by simpa using hv) _ _ next
theorem Xib (hc : Xbl P ctx) (hcall : Xcb P ctx call) {ops : Array Oper} {ps : List POp} {n : Nat} (hps : XcK m ops ops.toList = some ps) (hn : n ≤ ops.size)
  (hlt : ∀ (i : Nat) (o : Oper), ops[i]? = some o → ∀ e ∈ o.after, Region.binds .any e = true → e.on < i)
  (hseq : ∀ (listed : Array Bool) (i : Nat), n ≤ i → i ∈ Region.ready .any ops listed → (∀ j, listed.getD j false = true → ∀ k, ((XaF ops.toList []).getD j 0).testBit k = true → listed.getD k false = true) → ∀ j, j < i → listed.getD j false = true)
  (hclo : ∀ (listed : Array Bool) (i : Nat), i ∈ Region.ready .any ops listed → (∀ j, listed.getD j false = true → ∀ k, ((XaF ops.toList []).getD j 0).testBit k = true → listed.getD k false = true) → ∀ k, ((XaF ops.toList []).getD i 0).testBit k = true → listed.getD k false = true)
  (hbl : ∀ i k, i < ops.size → ((XaF ops.toList []).getD i 0).testBit k = true → k < i)
  (hone : Xmg (ps.take n)) (hlook : ∀ (i j : Nat) (p q : POp) (t : Nat), i < n → j < n → i ≠ j → ps[i]? = some p → ps[j]? = some q → q.dst = some t → t ∈ p.looks → ((XaF ops.toList []).getD i 0).testBit j = true)
  (hord : ∀ (i j : Nat) (p q : POp), i < n → j < i → ps[i]? = some p → ps[j]? = some q → Xba p = true → Xba q = true → ((XaF ops.toList []).getD i 0).testBit j = true)
  {σ0 : Nat → PV} {s' : St} {vs : List PV} {Ts : Nat → List SObj × Bool} (hvl : vs.length = (ps.take n).length) (hvs : ∀ (i : Nat) (p : POp), (ps.take n)[i]? = some p → Xcq ctx call fr p (lex (ps.take n) vs σ0 i) (vs.getD i .poison) (Ts i) (Ts (i + 1)) (fun S' => S' ∈ ([] : List (List SObj)) ∨ ∃ j, j ≤ (ps.take n).length ∧ (Ts j).1 = S'))
  (h2 : XbM ctx call fr (ps.drop n) (lex (ps.take n) vs σ0 (ps.take n).length) (Ts n).1 (Ts n).2 = some s')
  {Q : Exit → Act → World → Prop} {g0 : G} {w0 : World} {N : Nat} (hq : ∀ g' w' a', Rel ctx fr bd s' g' w' a' → Evo N g0 w0 g' w' → N ≤ s'.2.1.length → Q .normal a' w') :
  ∀ (fuel : Nat) (listed : Array Bool) (mm : Nat) (g : G) (w : World) (a : Act), listed.size = ops.size → cnt (fun i => listed.getD i false) ops.size + fuel = ops.size →
   (∀ j, listed.getD j false = true → ∀ k, ((XaF ops.toList []).getD j 0).testBit k = true → listed.getD k false = true) →
   (∀ i, listed.getD i false = true → i < n) → mm ≤ n → (∀ (j : Nat) (p : POp), j < mm → ps[j]? = some p → Xba p = true → listed.getD j false = true) → (∀ (j : Nat) (p : POp), mm ≤ j → j < n → ps[j]? = some p → Xba p = true → listed.getD j false = false) →
   Rel ctx fr bd (XeM (ps.take n) vs (fun i => listed.getD i false) 0 σ0, (Ts mm).1, (Ts mm).2) g w a → Evo N g0 w0 g w → N ≤ (Ts mm).1.length →
   wpAny P .any ops Q fuel listed a w
 | fuel, listed, mm, g, w, a, hsz, hcnt, hclosed, hl, hmn', hlo, hhi, hr, he, hN => by
  obtain ⟨plen, pget⟩ := XcG hps
  have hsize : ops.toList.length = ops.size := by simp
  have htl : (ps.take n).length = n := by simp; omega
  have tget : ∀ (i : Nat) (p : POp), (ps.take n)[i]? = some p ↔ i < n ∧ ps[i]? = some p := by
   intro i p
   rw [List.getElem?_take]
   by_cases h : i < n
   ·simp [h]
   ·simp [h]
  have hconst : ∀ (b c : Nat), c + b ≤ n → (∀ (j : Nat) (p : POp), c ≤ j → j < c + b → ps[j]? = some p → Xba p = false) → Ts (c + b) = Ts c := by
   intro b
   induction b with
   | zero => intro c _ _; rfl
   | succ b ih =>
    intro c hcb hno
    have hlt' : c + b < ps.length := by omega
    have h1 := hvs (c + b) ps[c + b] ((tget _ _).2 ⟨by omega, List.getElem?_eq_getElem hlt'⟩)
    have h3 := hno (c + b) ps[c + b] (by omega) (by omega) (List.getElem?_eq_getElem hlt')
    have h4 : Ts (c + b + 1) = Ts (c + b) := by
     rcases h1.2 with h5 | h5 | h5
     ·exact h5.2.2
     ·rw [h3] at h5; cases h5.2.1
     ·exact h5.2.2.1
    rw [show c + (b + 1) = c + b + 1 by omega, h4]
    exact ih c (by omega) fun j p h6 h7 => hno j p h6 (by omega)
  by_cases hall : ∀ i, i < n → listed.getD i false = true
  ·-- all of them have come
   have hmix : XeM (ps.take n) vs (fun i => listed.getD i false) 0 σ0 = lex (ps.take n) vs σ0 (ps.take n).length := by
    funext t
    by_cases ht : ∃ (j : Nat) (q : POp), (ps.take n)[j]? = some q ∧ q.dst = some t
    ·obtain ⟨j, q, hj, hd⟩ := ht
     have hjn := ((tget j q).1 hj).1
     rw [Xci _ _ _ _ _ hone hvl j q (by simpa using hall j hjn) hj hd, Xey _ _ _ _ hone hvl j q (by omega) hj hd]
    ·rw [XbV _ _ _ _ _ (fun j q _ hj hd => ht ⟨j, q, hj, hd⟩), XdP _ _ _ _ (fun j q _ hj hd => ht ⟨j, q, hj, hd⟩)]
   rw [hmix] at hr
   have hTn : Ts n = Ts mm := by
    have := hconst (n - mm) mm (by omega) (fun j p h3 h4 h5 => by
     cases hc' : Xba p with
     | false => rfl
     | true => have := hhi j p h3 (by omega) h5 hc'; rw [hall j (by omega)] at this; cases this)
    rwa [show mm + (n - mm) = n by omega] at this
   rw [← hTn] at hr hN
   exact Xhl hc hcall hps hlt hseq hclo hq fuel listed n _ g w a hsz hcnt hclosed (Nat.le_refl _) (fun i hi => ⟨hl i, hall i⟩) hr h2 he hN
  ·have : ∃ m, m < n ∧ listed.getD m false = false := by
    apply Classical.byContradiction
    intro hno
    apply hall
    intro j hj
    cases hc : listed.getD j false with
    | true => rfl
    | false => exact absurd ⟨j, hj, hc⟩ hno
   obtain ⟨m, hmn, hun⟩ := this
   cases fuel with
   | zero => have := Xhj _ _ (by omega) m (by omega); rw [hun] at this; cases this
   | succ fuel =>
    refine ⟨fun h => absurd h (XcX hsz hlt m (by omega) hun), fun i hi => ?_⟩
    obtain ⟨hiu, o, hio, _⟩ := mem_ready.1 hi
    have hilt : i < ops.size := (Array.getElem?_eq_some_iff.1 hio).1
    have hiu : listed.getD i false = false := by
     rw [Array.getD_eq_getD_getElem?] at hiu ⊢
     rw [Array.getElem?_eq_getElem (by omega)] at hiu ⊢
     exact hiu
    have hin : i < n := by
     rcases Nat.lt_or_ge i n with h | h
     ·exact h
     ·have := hseq listed i h hi hclosed m (by omega)
      rw [hun] at this; cases this
    obtain ⟨p, hp1, hp2⟩ := pget i o (by simpa using hio)
    have hpt : (ps.take n)[i]? = some p := (tget i p).2 ⟨hin, hp1⟩
    have hat := hvs i p hpt
    have hat' : Xcq ctx call fr p (XeM (ps.take n) vs (fun i => listed.getD i false) 0 σ0) (vs.getD i .poison) (Ts i) (Ts (i + 1)) (fun S' => S' ∈ ([] : List (List SObj)) ∨ ∃ j, j ≤ (ps.take n).length ∧ (Ts j).1 = S') := by
     refine hat.congr fun t ht => ?_
     by_cases hw : ∃ (j : Nat) (q : POp), (ps.take n)[j]? = some q ∧ q.dst = some t ∧ j ≠ i
     ·obtain ⟨j, q, hj, hd, hji⟩ := hw
      have hj' := (tget j q).1 hj
      have hb := hlook i j p q t hin hj'.1 (fun h => hji h.symm) hp1 hj'.2 hd ht
      have hjL := hclo listed i hi hclosed j hb
      rw [Xci _ _ _ _ _ hone hvl j q (by simpa using hjL) hj hd, Xey _ _ _ _ hone hvl j q (hbl i j hilt hb) hj hd]
     ·rw [XbV _ _ _ _ _ (fun j q hj hq hd => by
       by_cases hji : j = i
       ·subst hji; simp at hj; rw [Array.getD_eq_getD_getElem?] at hiu; rw [hiu] at hj; cases hj
       ·exact hw ⟨j, q, hq, hd, hji⟩), XdP _ _ _ _ (fun j q hj hq hd => hw ⟨j, q, hq, hd, by omega⟩)]
    have hmix' : upd (XeM (ps.take n) vs (fun i => listed.getD i false) 0 σ0) p.dst (vs.getD i .poison) = XeM (ps.take n) vs (fun j => (listed.setIfInBounds i true).getD j false) 0 σ0 := by
     funext t
     by_cases ht : p.dst = some t
     ·rw [Xci _ _ _ _ _ hone hvl i p (by rw [Xbb (by omega)]; simp) hpt ht]
      simp [upd, ht]
     ·have hu : upd (XeM (ps.take n) vs (fun i => listed.getD i false) 0 σ0) p.dst (vs.getD i .poison) t = XeM (ps.take n) vs (fun i => listed.getD i false) 0 σ0 t := by
       unfold upd
       cases hd : p.dst with
       | none => rfl
       | some d =>
        have : t ≠ d := by rintro rfl; exact ht hd
        simp [this]
      rw [hu]
      by_cases hw : ∃ (j : Nat) (q : POp), (ps.take n)[j]? = some q ∧ q.dst = some t ∧ listed.getD j false = true
      ·obtain ⟨j, q, hj, hd, hjL⟩ := hw
       have hji : j ≠ i := by rintro rfl; rw [hiu] at hjL; cases hjL
       rw [Xci _ _ _ _ _ hone hvl j q (by simpa using hjL) hj hd, Xci _ _ _ _ _ hone hvl j q (by rw [Xbb (by omega), Nat.zero_add, if_neg hji]; exact hjL) hj hd]
      ·rw [XbV _ _ _ _ _ (fun j q hj hq hd => hw ⟨j, q, hq, hd, by simpa using hj⟩), XbV _ _ _ _ _ (fun j q hj hq hd => by
        rw [Xbb (by omega), Nat.zero_add] at hj
        by_cases hji : j = i
        ·subst hji
         rw [hpt] at hq; injection hq with hq; subst hq
         exact ht hd
        ·rw [if_neg hji] at hj; exact hw ⟨j, q, hq, hd, hj⟩)]
    have next : ∀ (m' : Nat), m' ≤ n → (∀ (j : Nat) (q : POp), j < m' → ps[j]? = some q → Xba q = true → (listed.setIfInBounds i true).getD j false = true) → (∀ (j : Nat) (q : POp), m' ≤ j → j < n → ps[j]? = some q → Xba q = true → (listed.setIfInBounds i true).getD j false = false) →
      ∀ g' w' a', Rel ctx fr bd (upd (XeM (ps.take n) vs (fun i => listed.getD i false) 0 σ0) p.dst (vs.getD i .poison), (Ts m').1, (Ts m').2) g' w' a' → Evo (Ts mm).1.length g w g' w' → (Ts mm).1.length ≤ (Ts m').1.length → wpAny P .any ops Q fuel (listed.setIfInBounds i true) a' w' := by
     intro m' hm' hlo' hhi' g' w' a' hr' he' hle'
     rw [hmix'] at hr'
     refine Xib hc hcall hps hn hlt hseq hclo hbl hone hlook hord hvl hvs h2 hq fuel _ m' g' w' a' (by simpa using hsz) ?_ ?_ (fun j hj => ?_) hm' hlo' hhi' hr' (he.trans (he'.mono hN)) (Nat.le_trans hN hle')
     ·have := Xhk (L := fun i => listed.getD i false) (L' := fun j => (listed.setIfInBounds i true).getD j false) (i := i) hiu (by rw [Xbb (by omega)]; simp) (fun j hj => by rw [Xbb (by omega), if_neg hj]) ops.size
      rw [this, if_pos hilt]; omega
     ·intro j hj k hk
      rw [Xbb (by omega)] at hj ⊢
      by_cases hki : k = i
      ·rw [if_pos hki]
      ·rw [if_neg hki]
       by_cases hji : j = i
       ·subst hji; exact hclo listed j hi hclosed k hk
       ·rw [if_neg hji] at hj; exact hclosed j hj k hk
     ·rw [Xbb (by omega)] at hj
      by_cases hji : j = i
      ·omega
      ·rw [if_neg hji] at hj; exact hl j hj
    have hqp : ∀ {q : POp}, ps[i]? = some q → q = p := fun h => by rw [hp1] at h; exact (Option.some.inj h).symm
    have hquiet : Xba p = false → ∀ g' w' a', Rel ctx fr bd (upd (XeM (ps.take n) vs (fun i => listed.getD i false) 0 σ0) p.dst (vs.getD i .poison), (Ts mm).1, (Ts mm).2 || false) g' w' a' → Evo (Ts mm).1.length g w g' w' → (Ts mm).1.length ≤ (Ts mm).1.length → wpAny P .any ops Q fuel (listed.setIfInBounds i true) a' w' := by
     intro hch g' w' a' hr' he' hle'
     rw [Bool.or_false] at hr'
     refine next mm hmn' (fun j q h3 h4 h5 => ?_) (fun j q h3 h4 h5 h6 => ?_) g' w' a' hr' he' hle'
     ·rw [Xbb (by omega)]
      by_cases hji : j = i
      ·simp [hji]
      ·rw [if_neg hji]; exact hlo j q h3 h4 h5
     ·rw [Xbb (by omega)]
      by_cases hji : j = i
      ·subst hji; rw [hqp h5] at h6; rw [h6] at hch; cases hch
      ·rw [if_neg hji]; exact hhi j q h3 h4 h5 h6
    have hturn : Xba p = true → Ts i = Ts mm ∧ ∀ g' w' a', Rel ctx fr bd (upd (XeM (ps.take n) vs (fun i => listed.getD i false) 0 σ0) p.dst (vs.getD i .poison), (Ts (i + 1)).1, (Ts (i + 1)).2) g' w' a' → Evo (Ts mm).1.length g w g' w' → (Ts mm).1.length ≤ (Ts (i + 1)).1.length → wpAny P .any ops Q fuel (listed.setIfInBounds i true) a' w' := by
     intro hch
     have hmi : mm ≤ i := by
      rcases Nat.lt_or_ge i mm with h | h
      ·have := hlo i p h hp1 hch; rw [hiu] at this; cases this
      ·exact h
     have hbef : ∀ (j : Nat) (q : POp), j < i → ps[j]? = some q → Xba q = true → listed.getD j false = true := fun j q h3 h4 h5 => hclo listed i hi hclosed j (hord i j p q hin h3 hp1 h4 hch h5)
     refine ⟨?_, next (i + 1) (by omega) (fun j q h3 h4 h5 => ?_) (fun j q h3 h4 h5 h6 => ?_)⟩
     ·have := hconst (i - mm) mm (by omega) (fun j q h3 h4 h5 => by
       cases hc' : Xba q with
       | false => rfl
       | true => have h6 := hhi j q h3 (by omega) h5 hc'; rw [hbef j q (by omega) h5 hc'] at h6; cases h6)
      rwa [show mm + (i - mm) = i by omega] at this
     ·rw [Xbb (by omega)]
      by_cases hji : j = i
      ·simp [hji]
      ·rw [if_neg hji]; exact hbef j q (by omega) h4 h5
     ·rw [Xbb (by omega), if_neg (by omega)]
      exact hhi j q (by omega) h4 h5 h6
    have hmem : (fun S' => S' ∈ ([] : List (List SObj)) ∨ ∃ j, j ≤ (ps.take n).length ∧ (Ts j).1 = S') (Ts mm).1 := .inr ⟨mm, by omega, rfl⟩
    obtain ⟨hd, hcase⟩ := hat'
    rcases hcase with ⟨hw, hv, hT⟩ | ⟨hw, hch, e, hst, hT⟩ | ⟨hw, hch, hT, hst⟩
    ·refine XbY hc hcall hio hp2 hr hd hw (x := vs.getD i .poison) (S' := (Ts mm).1) (e' := false) (by simpa using hv) _ _ ?_
     by_cases hch : Xba p = true
     ·obtain ⟨t1, t2⟩ := hturn hch
      rw [hT, t1] at t2
      intro g' w' a' hr' he' hle'
      rw [Bool.or_false] at hr'
      exact t2 g' w' a' hr' he' hle'
     ·exact hquiet (by simpa using hch)
    ·obtain ⟨t1, t2⟩ := hturn hch
     rw [t1] at hst hT
     refine XbY hc hcall hio hp2 hr hd hw (x := vs.getD i .poison) (S' := (Ts (i + 1)).1) (e' := e) (by simpa using hst) _ _ ?_
     intro g' w' a' hr' he' hle'
     refine t2 g' w' a' ?_ he' hle'
     rw [hT]; exact hr'
    ·exact XbY hc hcall hio hp2 hr hd hw (x := vs.getD i .poison) (S' := (Ts mm).1) (e' := false) (by simpa using hst _ hmem) _ _ (hquiet hch)
theorem XjT (hc : Xbl P ctx) (hcall : Xcb P ctx call) (hm : P.follows .mixedOrders = true) {id : Nat} {ops : Array Oper} {ps : List POp} {n : Nat} (hps : XcK m ops ops.toList = some ps) (hok : XhI ops.toList ps n = true)
  {s s' : St} {σ : Nat → PV} {g : G} {w : World} {a : Act} {Q : Exit → Act → World → Prop} (h1 : XbF ctx call fr s.2.1 (ps.take n) s.1 = some σ) (h2 : XbM ctx call fr (ps.drop n) σ s.2.1 s.2.2 = some s') (hr : Rel ctx fr bd s g w a)
  (hq : ∀ g' w' a', Rel ctx fr bd s' g' w' a' → Evo s.2.1.length g w g' w' → s.2.1.length ≤ s'.2.1.length → Q .normal a' w') : (Code.region id ops true).wp P Q a w := by
 obtain ⟨plen, pget⟩ := XcG hps
 have hsize : ops.toList.length = ops.size := by simp
 simp only [XhI, Bool.and_eq_true, decide_eq_true_eq] at hok
 obtain ⟨⟨⟨c1, c2⟩, c3⟩, c4⟩ := hok
 have zget : ∀ (i : Nat) (o : Oper), ops[i]? = some o → (o, i) ∈ ops.toList.zipIdx := by
  intro i o hi
  rw [List.mem_zipIdx_iff_getElem?]
  simpa using hi
 have hlt : ∀ (i : Nat) (o : Oper), ops[i]? = some o → ∀ e ∈ o.after, Region.binds .any e = true → e.on < i := by
  intro i o hi e he hb
  have := List.all_eq_true.1 c2 (o, i) (zget i o hi)
  have := List.all_eq_true.1 this e (by simpa using he)
  simpa [hb] using this
 have hbit : ∀ i k, i < ops.size → ((XaF ops.toList []).getD i 0).testBit k = true → ∃ o, ops[i]? = some o ∧ ∃ e ∈ o.after, Region.binds .any e = true ∧ (k = e.on ∨ ((XaF ops.toList []).getD e.on 0).testBit k = true) := by
  intro i k hi hb
  obtain ⟨e, e1, e2, e3⟩ := Xia (l := ops.toList) (o := ops[i]) (by simp [hi]) hb (fun e he hb => hlt i ops[i] (by simp [hi]) e (by simpa using he) hb)
  exact ⟨ops[i], by simp [hi], e, by simpa using e1, e2, e3⟩
 have hbl : ∀ i k, i < ops.size → ((XaF ops.toList []).getD i 0).testBit k = true → k < i := by
  intro i
  induction i using Nat.strongRecOn with
  | _ i ih =>
   intro k hi hb
   obtain ⟨o, ho, e, e1, e2, e3⟩ := hbit i k hi hb
   have hei := hlt i o ho e e1 e2
   rcases e3 with rfl | e3
   ·exact hei
   ·have := ih e.on hei k (by omega) e3
    omega
 have hclo : ∀ (listed : Array Bool) (i : Nat), i ∈ Region.ready .any ops listed → (∀ j, listed.getD j false = true → ∀ k, ((XaF ops.toList []).getD j 0).testBit k = true → listed.getD k false = true) → ∀ k, ((XaF ops.toList []).getD i 0).testBit k = true → listed.getD k false = true := by
  intro listed i hi hcl k hk
  obtain ⟨_, o, ho, h3⟩ := mem_ready.1 hi
  have hil : i < ops.size := (Array.getElem?_eq_some_iff.1 ho).1
  obtain ⟨o', ho', e, e1, e2, e3⟩ := hbit i k hil hk
  rw [ho] at ho'; injection ho' with ho'; subst ho'
  have hL := h3 e e1 e2
  rcases e3 with rfl | e3
  ·exact hL
  ·exact hcl _ hL k e3
 have hseq : ∀ (listed : Array Bool) (i : Nat), n ≤ i → i ∈ Region.ready .any ops listed → (∀ j, listed.getD j false = true → ∀ k, ((XaF ops.toList []).getD j 0).testBit k = true → listed.getD k false = true) → ∀ j, j < i → listed.getD j false = true := by
  intro listed i hni hi hcl j hj
  obtain ⟨_, o, ho, _⟩ := mem_ready.1 hi
  have hil : i < ops.size := (Array.getElem?_eq_some_iff.1 ho).1
  have := List.all_eq_true.1 c4 i (by simp; omega)
  simp only [Bool.or_eq_true, decide_eq_true_eq] at this
  rcases this with h | h
  ·omega
  ·exact hclo listed i hi hcl j (List.all_eq_true.1 h j (by simpa using hj))
 have pz : ∀ (i : Nat) (p : POp), i < n → ps[i]? = some p → (p, i) ∈ (ps.take n).zipIdx := by
  intro i p hi hp
  rw [List.mem_zipIdx_iff_getElem?]
  simpa [List.getElem?_take, hi] using hp
 have c3' : ∀ (i j : Nat) (p q : POp), i < n → j < n → i ≠ j → ps[i]? = some p → ps[j]? = some q → (p.dst = none ∨ p.dst ≠ q.dst) ∧ ∀ t, q.dst = some t → t ∈ p.looks → ((XaF ops.toList []).getD i 0).testBit j = true := by
  intro i j p q hi hj hij hp hq
  have := List.all_eq_true.1 c3 (p, i) (pz i p hi hp)
  have := List.all_eq_true.1 this (q, j) (pz j q hj hq)
  simp only [Bool.or_eq_true, Bool.and_eq_true, beq_iff_eq, hij, false_or, bne_iff_ne, Option.isNone_iff_eq_none] at this
  refine ⟨this.1, fun t ht hl => ?_⟩
  have h2 := this.2
  rw [ht] at h2
  simpa [hl] using h2
 have tget : ∀ (i : Nat) (p : POp), (ps.take n)[i]? = some p → i < n ∧ ps[i]? = some p := by
  intro i p h
  rw [List.getElem?_take] at h
  by_cases hi : i < n
  ·rw [if_pos hi] at h; exact ⟨hi, h⟩
  ·rw [if_neg hi] at h; cases h
 have hone : Xmg (ps.take n) := by
  intro i j p q t hi hj hp hq
  by_cases hij : i = j
  ·exact hij
  ·have := (c3' i j p q (tget i p hi).1 (tget j q hj).1 hij (tget i p hi).2 (tget j q hj).2).1
   rw [hp, hq] at this
   simp at this
 obtain ⟨vs, v1, v2, v3⟩ := XgJ _ _ _ h1
 rw [← v2] at h2
 refine wp_region_any hm ?_
 have hfalse : ∀ i, (Array.replicate ops.size false).getD i false = false := by
  intro i
  rw [Array.getD_eq_getD_getElem?, Array.getElem?_replicate]
  split <;> rfl
 have hmix : XeM (ps.take n) vs (fun i => (Array.replicate ops.size false).getD i false) 0 s.1 = s.1 := by
  funext t
  exact XbV _ _ _ _ _ (fun j q hj => by rw [hfalse] at hj; cases hj)
 have hcnt0 : ∀ k, cnt (fun i => (Array.replicate ops.size false).getD i false) k = 0 := by
  intro k
  induction k with
  | zero => rfl
  | succ k ih => unfold cnt; rw [ih, hfalse]; rfl
 refine Xjo hc hcall hps (by omega) hlt hseq hclo hbl hone (fun i j p q t hi hj hij hp hq hd hl => (c3' i j p q hi hj hij hp hq).2 t hd hl) v1 v3 h2 hq ops.size _ g _ a (by simp) (by rw [hcnt0]; omega)
  (fun j hj => by rw [hfalse] at hj; cases hj) (fun i hi => by rw [hfalse] at hi; cases hi) ?_ (Evo.drawn rfl rfl rfl rfl)
 rw [hmix]
 have he : Evo s.2.1.length g w g { w with drawn := w.drawn + 1 } := Evo.drawn rfl rfl rfl rfl
 exact ⟨hr.slots.evo he, hr.size, hr.defers, hr.r.drawn rfl rfl rfl rfl, hr.gl.evo he⟩
theorem XiK (hc : Xbl P ctx) (hcall : Xcb P ctx call) (hm : P.follows .mixedOrders = true) {id : Nat} {ops : Array Oper} {ps : List POp} {n : Nat} (hps : XcK m ops ops.toList = some ps) (hok : XhI ops.toList ps n = true) (hco : Xkr ops.toList ps n = true)
  {s s1 s' : St} {g : G} {w : World} {a : Act} {Q : Exit → Act → World → Prop} (h1 : Xbh ctx call fr (ps.take n) [] [] s.1 s.2.1 s.2.2 = some s1) (h2 : XbM ctx call fr (ps.drop n) s1.1 s1.2.1 s1.2.2 = some s') (hr : Rel ctx fr bd s g w a)
  (hq : ∀ g' w' a', Rel ctx fr bd s' g' w' a' → Evo s.2.1.length g w g' w' → s.2.1.length ≤ s'.2.1.length → Q .normal a' w') : (Code.region id ops true).wp P Q a w := by
 obtain ⟨plen, pget⟩ := XcG hps
 have hsize : ops.toList.length = ops.size := by simp
 simp only [XhI, Bool.and_eq_true, decide_eq_true_eq] at hok
 obtain ⟨⟨⟨c1, c2⟩, c3⟩, c4⟩ := hok
 have zget : ∀ (i : Nat) (o : Oper), ops[i]? = some o → (o, i) ∈ ops.toList.zipIdx := by
  intro i o hi
  rw [List.mem_zipIdx_iff_getElem?]
  simpa using hi
 have hlt : ∀ (i : Nat) (o : Oper), ops[i]? = some o → ∀ e ∈ o.after, Region.binds .any e = true → e.on < i := by
  intro i o hi e he hb
  have := List.all_eq_true.1 c2 (o, i) (zget i o hi)
  have := List.all_eq_true.1 this e (by simpa using he)
  simpa [hb] using this
 have hbit : ∀ i k, i < ops.size → ((XaF ops.toList []).getD i 0).testBit k = true → ∃ o, ops[i]? = some o ∧ ∃ e ∈ o.after, Region.binds .any e = true ∧ (k = e.on ∨ ((XaF ops.toList []).getD e.on 0).testBit k = true) := by
  intro i k hi hb
  obtain ⟨e, e1, e2, e3⟩ := Xia (l := ops.toList) (o := ops[i]) (by simp [hi]) hb (fun e he hb => hlt i ops[i] (by simp [hi]) e (by simpa using he) hb)
  exact ⟨ops[i], by simp [hi], e, by simpa using e1, e2, e3⟩
 have hbl : ∀ i k, i < ops.size → ((XaF ops.toList []).getD i 0).testBit k = true → k < i := by
  intro i
  induction i using Nat.strongRecOn with
  | _ i ih =>
   intro k hi hb
   obtain ⟨o, ho, e, e1, e2, e3⟩ := hbit i k hi hb
   have hei := hlt i o ho e e1 e2
   rcases e3 with rfl | e3
   ·exact hei
   ·have := ih e.on hei k (by omega) e3
    omega
 have hclo : ∀ (listed : Array Bool) (i : Nat), i ∈ Region.ready .any ops listed → (∀ j, listed.getD j false = true → ∀ k, ((XaF ops.toList []).getD j 0).testBit k = true → listed.getD k false = true) → ∀ k, ((XaF ops.toList []).getD i 0).testBit k = true → listed.getD k false = true := by
  intro listed i hi hcl k hk
  obtain ⟨_, o, ho, h3⟩ := mem_ready.1 hi
  have hil : i < ops.size := (Array.getElem?_eq_some_iff.1 ho).1
  obtain ⟨o', ho', e, e1, e2, e3⟩ := hbit i k hil hk
  rw [ho] at ho'; injection ho' with ho'; subst ho'
  have hL := h3 e e1 e2
  rcases e3 with rfl | e3
  ·exact hL
  ·exact hcl _ hL k e3
 have hseq : ∀ (listed : Array Bool) (i : Nat), n ≤ i → i ∈ Region.ready .any ops listed → (∀ j, listed.getD j false = true → ∀ k, ((XaF ops.toList []).getD j 0).testBit k = true → listed.getD k false = true) → ∀ j, j < i → listed.getD j false = true := by
  intro listed i hni hi hcl j hj
  obtain ⟨_, o, ho, _⟩ := mem_ready.1 hi
  have hil : i < ops.size := (Array.getElem?_eq_some_iff.1 ho).1
  have := List.all_eq_true.1 c4 i (by simp; omega)
  simp only [Bool.or_eq_true, decide_eq_true_eq] at this
  rcases this with h | h
  ·omega
  ·exact hclo listed i hi hcl j (List.all_eq_true.1 h j (by simpa using hj))
 have pz : ∀ (i : Nat) (p : POp), i < n → ps[i]? = some p → (p, i) ∈ (ps.take n).zipIdx := by
  intro i p hi hp
  rw [List.mem_zipIdx_iff_getElem?]
  simpa [List.getElem?_take, hi] using hp
 have c3' : ∀ (i j : Nat) (p q : POp), i < n → j < n → i ≠ j → ps[i]? = some p → ps[j]? = some q → (p.dst = none ∨ p.dst ≠ q.dst) ∧ ∀ t, q.dst = some t → t ∈ p.looks → ((XaF ops.toList []).getD i 0).testBit j = true := by
  intro i j p q hi hj hij hp hq
  have := List.all_eq_true.1 c3 (p, i) (pz i p hi hp)
  have := List.all_eq_true.1 this (q, j) (pz j q hj hq)
  simp only [Bool.or_eq_true, Bool.and_eq_true, beq_iff_eq, hij, false_or, bne_iff_ne, Option.isNone_iff_eq_none] at this
  refine ⟨this.1, fun t ht hl => ?_⟩
  have h2 := this.2
  rw [ht] at h2
  simpa [hl] using h2
 have tget : ∀ (i : Nat) (p : POp), (ps.take n)[i]? = some p → i < n ∧ ps[i]? = some p := by
  intro i p h
  rw [List.getElem?_take] at h
  by_cases hi : i < n
  ·rw [if_pos hi] at h; exact ⟨hi, h⟩
  ·rw [if_neg hi] at h; cases h
 have hone : Xmg (ps.take n) := by
  intro i j p q t hi hj hp hq
  by_cases hij : i = j
  ·exact hij
  ·have := (c3' i j p q (tget i p hi).1 (tget j q hj).1 hij (tget i p hi).2 (tget j q hj).2).1
   rw [hp, hq] at this
   simp at this
 obtain ⟨vs, Ts, v1, v4, v5, v2, _, v3⟩ := XfM _ _ _ _ _ _ _ h1 (fun q hq => by cases hq)
 have hlen : (ps.take n).length = n := by simp; omega
 rw [hlen] at v5
 rw [← v2, ← v5] at h2
 have hord : ∀ (i j : Nat) (p q : POp), i < n → j < i → ps[i]? = some p → ps[j]? = some q → Xba p = true → Xba q = true → ((XaF ops.toList []).getD i 0).testBit j = true := by
  intro i j p q hi hj hp hq hcp hcq
  have := List.all_eq_true.1 hco (p, i) (pz i p hi hp)
  have := List.all_eq_true.1 this (q, j) (pz j q (by omega) hq)
  simpa [hcp, hcq, hj] using this
 refine wp_region_any hm ?_
 have hfalse : ∀ i, (Array.replicate ops.size false).getD i false = false := by
  intro i
  rw [Array.getD_eq_getD_getElem?, Array.getElem?_replicate]
  split <;> rfl
 have hmix : XeM (ps.take n) vs (fun i => (Array.replicate ops.size false).getD i false) 0 s.1 = s.1 := by
  funext t
  exact XbV _ _ _ _ _ (fun j q hj => by rw [hfalse] at hj; cases hj)
 have hcnt0 : ∀ k, cnt (fun i => (Array.replicate ops.size false).getD i false) k = 0 := by
  intro k
  induction k with
  | zero => rfl
  | succ k ih => unfold cnt; rw [ih, hfalse]; rfl
 refine Xib hc hcall hps (by omega) hlt hseq hclo hbl hone (fun i j p q t hi hj hij hp hq hd hl => (c3' i j p q hi hj hij hp hq).2 t hd hl) hord v1 v3 h2 hq ops.size _ 0 g _ a (by simp) (by rw [hcnt0]; omega)
  (fun j hj => by rw [hfalse] at hj; cases hj) (fun i hi => by rw [hfalse] at hi; cases hi) (Nat.zero_le _) (fun j p hj => by omega) (fun j p _ _ _ _ => hfalse j) ?_ (Evo.drawn rfl rfl rfl rfl) (by rw [v4]; exact Nat.le_refl _)
 rw [hmix, v4]
 have he : Evo s.2.1.length g w g { w with drawn := w.drawn + 1 } := Evo.drawn rfl rfl rfl rfl
 exact ⟨hr.slots.evo he, hr.size, hr.defers, hr.r.drawn rfl rfl rfl rfl, hr.gl.evo he⟩
theorem Xic (hc : Xbl P ctx) (hcall : Xcb P ctx call) (hm : P.follows .mixedOrders = true) (k : Nat) {m : List Nat} : ∀ (c : Code) (pc : PC) (s s' : St) (x : Ex) (g : G) (w : World) (a : Act) (Q : Exit → Act → World → Prop), Xbd m c = some pc → Xbm ctx call fr k pc s = some (x, s') → Rel ctx fr bd s g w a →
  (∀ g' w' a', Rel ctx fr bd s' g' w' a' → Evo s.2.1.length g w g' w' → s.2.1.length ≤ s'.2.1.length → Q x.to a' w') → c.wp P Q a w := by
 intro c
 induction c with
 | skip =>
  intro pc s s' x g w a Q hp h hr hq
  simp only [Xbd] at hp; injection hp with hp; subst hp
  simp only [Xbm] at h; injection h with h; injection h with h1 h2; subst h1; subst h2
  exact wp_skip (hq g w a hr (Evo.refl _ _ _) (Nat.le_refl _))
 | label l =>
  intro pc s s' x g w a Q hp h hr hq
  simp only [Xbd] at hp; injection hp with hp; subst hp
  simp only [Xbm] at h; injection h with h; injection h with h1 h2; subst h1; subst h2
  exact wp_label (hq g w a hr (Evo.refl _ _ _) (Nat.le_refl _))
 | region id ops draw =>
  intro pc s s' x g w a Q hp h hr hq
  cases draw with
  | true =>
   simp only [Xbd] at hp
   split at hp
   case h_2 => cases hp
   rename_i ps hps
   split at hp
   case isFalse => cases hp
   rename_i hok
   split at hp
   ·split at hp
    case isFalse => cases hp
    rename_i hco
    injection hp with hp; subst hp
    simp only [Xbm] at h
    split at h
    case h_2 => cases h
    rename_i s0 h1
    split at h
    case h_2 => cases h
    rename_i s1 h2
    injection h with h; injection h with h3 h4; subst h3; subst h4
    exact XiK hc hcall hm hps hok hco h1 h2 hr hq
   ·injection hp with hp; subst hp
    simp only [Xbm] at h
    split at h
    case h_2 => cases h
    rename_i σ h1
    split at h
    case h_2 => cases h
    rename_i s1 h2
    injection h with h; injection h with h3 h4; subst h3; subst h4
    exact XjT hc hcall hm hps hok h1 h2 hr hq
  | false =>
   simp only [Xbd] at hp
   cases hps : XcK m ops ops.toList with
   | none => simp [hps] at hp
   | some ps =>
    simp [hps] at hp; subst hp
    simp only [Xbm] at h
    split at h
    ·rename_i s1 h1
     injection h with h; injection h with h2 h3; subst h2; subst h3
     exact wp_region_list (Xei hc hcall ops.toList ps s s1 g w a hps h1 hr hq)
    ·cases h
 | seq c1 c2 ih1 ih2 =>
  intro pc s s' x g w a Q hp h hr hq
  simp only [Xbd] at hp
  split at hp
  case h_2 => cases hp
  rename_i p1 p2 hp1 hp2
  injection hp with hp; subst hp
  simp only [Xbm] at h
  split at h
  ·rename_i s1 h1
   refine wp_seq (ih1 p1 s s1 .normal g w a _ hp1 h1 hr ?_)
   intro g1 w1 a1 r1 e1 l1
   exact ih2 p2 s1 s' x g1 w1 a1 Q hp2 h r1 (fun g' w' a' r' e' l' => hq g' w' a' r' (e1.trans (e'.mono l1)) (Nat.le_trans l1 l'))
  ·rename_i hne
   refine wp_seq (ih1 p1 s s' x g w a _ hp1 h hr ?_)
   intro g1 w1 a1 r1 e1 l1
   cases x with
   | normal => exact absurd h (hne s')
   | exit id => exact hq g1 w1 a1 r1 e1 l1
   | ret => exact hq g1 w1 a1 r1 e1 l1
 | cond o c1 c2 ih1 ih2 =>
  intro pc s s' x g w a Q hp h hr hq
  simp only [Xbd] at hp
  split at hp
  case h_2 => cases hp
  rename_i p1 p2 hp1 hp2
  injection hp with hp; subst hp
  have ho := Xa6 hr.slots o
  simp only [Xbm] at h
  split at h
  ·rename_i hb
   rw [hb] at ho
   exact wp_cond_true ho.inv_bool (ih1 p1 s s' x g w a Q hp1 h hr hq)
  ·rename_i hb
   rw [hb] at ho
   exact wp_cond_false ho.inv_bool (ih2 p2 s s' x g w a Q hp2 h hr hq)
  ·cases h
 | block id c ih =>
  intro pc s s' x g w a Q hp h hr hq
  simp only [Xbd] at hp
  cases hp1 : Xbd m c with
  | none => simp [hp1] at hp
  | some p1 =>
   simp [hp1] at hp; subst hp
   simp only [Xbm] at h
   split at h
   ·rename_i i s1 h1
    injection h with h; injection h with h2 h3; subst h3
    refine wp_block (ih p1 s s1 (.exit i) g w a _ hp1 h1 hr ?_)
    intro g1 w1 a1 r1 e1 l1
    have := hq g1 w1 a1 r1 e1 l1
    rw [← h2] at this
    show (if i = id then Q .normal a1 w1 else Q (.exit i) a1 w1)
    split
    ·rename_i hi; rw [if_pos hi] at this; exact this
    ·rename_i hi; rw [if_neg hi] at this; exact this
   ·rename_i hne
    refine wp_block (ih p1 s s' x g w a _ hp1 h hr ?_)
    intro g1 w1 a1 r1 e1 l1
    have := hq g1 w1 a1 r1 e1 l1
    cases x with
    | normal => exact this
    | exit i => exact absurd h (hne i s')
    | ret => exact this
 | loop c ih =>
  intro pc s s' x g w a Q hp h hr hq
  simp only [Xbd] at hp
  cases hp1 : Xbd m c with
  | none => simp [hp1] at hp
  | some p1 =>
   simp [hp1] at hp; subst hp
   simp only [Xbm] at h
   exact wp_loop_rounds k (Xfd (fun s s' x g w a Q h hr hq => ih p1 s s' x g w a Q hp1 h hr hq) k s s' x g w a h hr hq)
 | exit id =>
  intro pc s s' x g w a Q hp h hr hq
  simp only [Xbd] at hp; injection hp with hp; subst hp
  simp only [Xbm] at h; injection h with h; injection h with h1 h2; subst h1; subst h2
  exact wp_exit (hq g w a hr (Evo.refl _ _ _) (Nat.le_refl _))
 | ret =>
  intro pc s s' x g w a Q hp h hr hq
  simp only [Xbd] at hp; injection hp with hp; subst hp
  simp only [Xbm] at h; injection h with h; injection h with h1 h2; subst h1; subst h2
  exact wp_ret (hq g w a hr (Evo.refl _ _ _) (Nat.le_refl _))
 | rangeFunc => intro pc s s' x g w a Q hp; simp [Xbd] at hp
 | scope c ih => intro pc s s' x g w a Q hp; simp [Xbd] at hp
 | goto l => intro pc s s' x g w a Q hp; simp [Xbd] at hp
 | refuse why => intro pc s s' x g w a Q hp; simp [Xbd] at hp
theorem R.take {S : List SObj} {w : World} {g : G} {base n : Nat} {bd : Nat → Nat} (h : R S w g n (lim base bd n)) (hn : n ≤ S.length) (hb : base ≤ n) (hbd : ∀ id, id < base → bd id ≤ base) :
  R (S.take n) w g base bd := by
 have hl : (S.take n).length = n := by simp; omega
 have get : ∀ (id : Nat) (o : SObj), (S.take n)[id]? = some o → S[id]? = some o ∧ id < n := by
  intro id o ho
  rw [List.getElem?_take] at ho
  split at ho
  ·rename_i hi; exact ⟨ho, hi⟩
  ·cases ho
 refine ⟨by omega, hbd, h.hfix, h.hpp, fun id o ho => ?_, fun i j o p hi hj => h.inj i j o p (get i o hi).1 (get j p hj).1⟩
 obtain ⟨h1, h2⟩ := get id o ho
 have := h.live id o h1
 rw [hl]
 unfold lim at this
 rw [if_pos h2] at this
 exact this
theorem V.bound0 {g : G} {w : World} {n m : Nat} {x : PV} {v : Value} (h : V g w n x v) (hc : x.clean = true) : V g w m x v := (h.clean hc).mono (Nat.zero_le _)
def XoO (tmps : Array Value) : ResultVar → Sem Value
 | .tmp t => pure (tmps.getD t undef)
 | .cell a t => do loadVar t (← asAddr (tmps.getD a undef))
theorem XjU (fn : Func) (tmps : Array Value) : results fn tmps = (do
  let vs ← fn.results.mapM (XoO tmps)
  pure (if h : vs.size = 1 then vs[0] else .tuple vs)) := rfl
theorem Xd8 (hc : Xbl P ctx) {S : List SObj} {g : G} {w : World} {base : Nat} {σ : Nat → PV} {a : Act} (hR : R S w g base bd) (hs : XbR g w S.length σ a.tmps) : ∀ (rs : List ResultVar) (vs : List PV), XaT ctx S σ rs = some vs →
  ∃ us : List Value, (rs.mapM (XoO a.tmps)).run P w = .ok us w ∧ us.length = vs.length ∧ ∀ (i : Nat) (c : PV), vs[i]? = some c → V g w S.length c (us.getD i undef)
 | [], vs, h => by
  simp [XaT] at h; subst h
  exact ⟨[], by simp, rfl, fun i c hi => by simp at hi⟩
 | r :: rs, vs, h => by
  simp only [XaT] at h
  split at h
  case h_2 => cases h
  rename_i x xs hx hxs
  injection h with h; subst h
  obtain ⟨us, h1, h2, h3⟩ := Xd8 hc hR hs rs xs hxs
  have key : ∃ u, (XoO a.tmps r).run P w = .ok u w ∧ V g w S.length x u := by
   cases r with
   | tmp t =>
    simp only [Xet] at hx
    injection hx with hx; subst hx
    exact ⟨_, rfl, hs t⟩
   | cell ad t =>
    simp only [Xet] at hx
    obtain ⟨v, k1, k2⟩ := XhK (P := P) (p := .tmp ad) hc hR hs hx
    refine ⟨v, ?_, k2⟩
    have hv := hs ad
    simp only [Act.eval] at k1
    simp only [XoO]
    cases hsa : σ ad <;> rw [hsa] at hx <;> simp only [Xb2] at hx <;> try (cases hx; done)
    ·rw [hsa] at hv
     have he := hv.inv_ptr.1
     rw [he] at k1 ⊢
     simpa [Instr.loadAt, Instr.sureAddr, asAddr] using k1
    ·rw [hsa] at hv
     obtain ⟨b, o, u, he, _⟩ := hv.inv_iptr
     rw [he] at k1 ⊢
     simpa [Instr.loadAt, Instr.sureAddr, asAddr] using k1
  obtain ⟨u, k1, k2⟩ := key
  refine ⟨u :: us, ?_, by simp [h2], fun i c hi => ?_⟩
  ·simp only [List.mapM_cons, Sem.run_bind, k1, Result.andThen_ok, h1, Sem.run_pure]
  ·cases i with
   | zero => simp at hi; subst hi; exact k2
   | succ i => simpa using h3 i c (by simpa using hi)
def one (us : List Value) : Value := match us with
 | [u] => u
 | us => .tuple us.toArray
theorem XiL {fn : Func} {tmps : Array Value} {w : World} {us : List Value} (h : (fn.results.toList.mapM (XoO tmps)).run P w = .ok us w) : (results fn tmps).run P w = .ok (one us) w := by
 rw [XjU, Array.mapM_eq_mapM_toList]
 simp only [Sem.run_bind, Sem.run_map, h, Result.andThen_ok, Sem.run_pure]
 congr 1
 match us with
 | [] => rfl
 | [u] => rfl
 | u :: v :: us => simp [one]
theorem Xid {g : G} {w : World} {n : Nat} {vs : List PV} {us : List Value} (hl : us.length = vs.length) (h : ∀ (i : Nat) (c : PV), vs[i]? = some c → V g w n c (us.getD i undef)) : V g w n (Xal vs) (one us) := by
 have tup : V g w n (.tup vs) (.tuple us.toArray) := .tup vs _ (by simpa using hl.symm) (fun i c hi => by rw [← XbX]; exact h i c hi)
 match vs, us, hl with
 | [], [], _ => exact tup
 | [x], [u], _ => simpa [Xal, one] using h 0 x rfl
 | x :: y :: vs, u :: v :: us, _ => exact tup
theorem R.rebase {S : List SObj} {w : World} {g : G} {base n : Nat} {bd : Nat → Nat} {e : Bool} (h : R S w g (if e then 0 else n) (lim base bd n)) (hn : n ≤ S.length) (hb : base ≤ n) (hbd : ∀ id, id < base → bd id ≤ base) :
  R S w g (if e then 0 else base) bd := by
 cases e with
 | true =>
  simp only [if_true] at h ⊢
  refine ⟨Nat.zero_le _, fun id hi => by omega, h.hfix, h.hpp, fun id o ho => ?_, h.inj⟩
  have := h.live id o ho
  unfold lim at this ⊢
  rw [if_neg (by omega)] at this ⊢
  exact this
 | false =>
  simp only [Bool.false_eq_true, if_false] at h ⊢
  refine ⟨by omega, hbd, h.hfix, h.hpp, fun id o ho => ?_, h.inj⟩
  have := h.live id o ho
  refine this.mono ?_
  unfold lim
  split
  ·split
   ·exact Nat.le_refl _
   ·omega
  ·rw [if_neg (by omega)]
   exact Nat.le_refl _
def Xmi (P : Program) (env : Env) : Prop :=
 ∀ f h, env.intr f = some h → ∀ (args : List PV) (S : List SObj) (v : PV) (S' : List SObj) (e : Bool), h args S = some (v, S', e) →
  ∀ (w : World) (g : G) (base : Nat) (bd : Nat → Nat) (cargs : Array Value), R S w g base bd → Gl env.ctx w g → args.length = cargs.size → (∀ (i : Nat) (c : PV), args[i]? = some c → V g w S.length c (cargs.getD i undef)) →
   (∃ fn, P.funcs[f]? = some fn ∧ fn.body.isNone = false ∧ fn.name ≠ "runtime.NumGoroutine") ∧
   Calls P f cargs w (fun en w' => ∃ rv, en = .returned rv ∧ XbE base bd S g w v S' e rv w')
structure Xk2 (P : Program) (env : Env) : Prop where
 ty : Xbl P env.ctx
 fns : ∀ f pf, env.fn f = some pf → Xbf P f pf
 intr : Xmi P env
 mixed : P.follows .mixedOrders = true
theorem Xez {env : Env} (hc : Xk2 P env) {k : Nat} (hcall : Xcb P env.ctx (ev env k)) {f : FuncId} {pf : PFn} (hpf : env.fn f = some pf) {args : List PV} (hle : args.length ≤ pf.ntmps) {S : List SObj} {v : PV} {S' : List SObj} {e : Bool}
  (h : Xd3 env.ctx (ev env k) k pf args S = some (v, S', e)) {w : World} {g : G} {base : Nat} {bd : Nat → Nat} {cargs : Array Value} (hR : R S w g base bd) (hgl : Gl env.ctx w g) (hlen : args.length = cargs.size)
  (hargs : ∀ (i : Nat) (c : PV), args[i]? = some c → V g w S.length c (cargs.getD i undef)) :
  (∃ fn, P.funcs[f]? = some fn ∧ fn.body.isNone = false ∧ fn.name ≠ "runtime.NumGoroutine") ∧
  Calls P f cargs w (fun en w' => ∃ rv g', en = .returned rv ∧ V g' w' S'.length v rv ∧ R S' w' g' (if e then 0 else S.length) (lim base bd S.length) ∧ Evo S.length g w g' w' ∧ S.length ≤ S'.length) := by
 obtain ⟨fn, cd, mm, f1, f2, f6, f3, f4, f5⟩ := (hc.fns f pf hpf).ok
 refine ⟨⟨fn, f1, by rw [f2]; rfl, f5⟩, ?_⟩
 let s0 : St := (fun i => args.getD i (.tup []), S, false)
 have hr0 : Rel env.ctx ⟨pf.ntmps, S.length⟩ (lim base bd S.length) s0 g w { tmps := cargs ++ Array.replicate (fn.ntmps - cargs.size) undef, defers := [] } := by
  refine ⟨fun i => ?_, by simp; omega, rfl, ?_, hgl⟩
  ·show V g w S.length (args.getD i (.tup [])) _
   rw [List.getD_eq_getElem?_getD, Array.getD_eq_getD_getElem?]
   rcases Nat.lt_or_ge i cargs.size with hi | hi
   ·rw [Array.getElem?_append_left hi, List.getElem?_eq_getElem (by omega), ← Array.getD_eq_getD_getElem?]
    exact hargs i _ (List.getElem?_eq_getElem (by omega))
   ·rw [Array.getElem?_append_right hi, List.getElem?_eq_none (by omega)]
    have : ((Array.replicate (fn.ntmps - cargs.size) undef)[i - cargs.size]?).getD undef = undef := by
     rw [Array.getElem?_replicate]; split <;> rfl
    rw [this]
    exact .tup [] _ rfl (fun i c hi => by simp at hi)
  ·simp only [s0, Bool.false_eq_true, if_false]
   refine ⟨Nat.le_refl _, fun id _ => XcJ hR id, hR.hfix, hR.hpp, fun id o ho => ?_, hR.inj⟩
   have := hR.live id o ho
   have hid := R.lt hR ho
   unfold lim
   rw [if_pos hid]
   exact this
 refine calls_of_wp f1 f2 ?_
 unfold Xd3 at h
 split at h
 ·cases h
 ·rename_i x σ' S1 e1 hne hev
  split at h
  case h_2 => cases h
  rename_i vs hvs
  refine Xic hc.ty hcall hc.mixed k cd pf.body s0 (σ', S1, e1) x g w _ _ f6 hev hr0 ?_
  intro g1 w1 a1 r1 ev1 l1
  obtain ⟨us, u1, u2, u3⟩ := Xd8 (P := P) hc.ty r1.r r1.slots pf.results vs hvs
  rw [← f4] at u1
  have hres := XiL u1
  have fin : ∃ rv g', Ending.returned (one us) = .returned rv ∧ V g' w1 S'.length v rv ∧ R S' w1 g' (if e then 0 else S.length) (lim base bd S.length) ∧ Evo S.length g w g' w1 ∧ S.length ≤ S'.length := by
   split at h
   ·injection h with h; injection h with h1 h2; injection h2 with h2 h3
    subst h1; subst h2; subst h3
    exact ⟨_, g1, rfl, Xid u2 u3, r1.r, ev1, l1⟩
   ·injection h with h; injection h with h1 h2; injection h2 with h2 h3
    subst h1; subst h2; subst h3
    obtain ⟨g2, q1, q2, q3⟩ := XgI vs us S1 g1 r1.r u2.symm u3
    obtain ⟨len1, len2⟩ := Xjk vs S1
    rw [← len1] at q3
    exact ⟨_, g2, rfl, Xid (u2.trans len2.symm) q3, q1, ev1.trans (q2.mono l1), by rw [len1]; exact l1⟩
  cases x with
  | normal => exact ⟨r1.defers, _, hres, fin⟩
  | exit id => exact absurd rfl (hne id)
  | ret => exact ⟨r1.defers, _, hres, fin⟩
 ·cases h
theorem XjV {S S1 : List SObj} {w w1 : World} {g g1 : G} {base : Nat} {bd : Nat → Nat} (hR : R S w g base bd) {v v' : PV} {rv : Value} {S' : List SObj} {e e1 : Bool} (hV : V g1 w1 S1.length v rv) (h1 : R S1 w1 g1 (if e1 then 0 else S.length) (lim base bd S.length))
  (ev1 : Evo S.length g w g1 w1) (l1 : S.length ≤ S1.length) (h : XfB S.length v S1 e1 = (v', S', e)) : XbE base bd S g w v' S' e rv w1 := by
 unfold XfB at h
 split at h
 ·rename_i hcl
  injection h with h1' h2; injection h2 with h2 h3
  subst h1'; subst h2; subst h3
  simp only [hcl.1, Bool.false_eq_true, if_false] at h1
  refine ⟨g1, hV.strip.bound0 hcl.2, ?_, ev1, by simp; omega⟩
  simp only [Bool.false_eq_true, if_false]
  exact h1.take l1 hR.hbase hR.hbd
 ·injection h with h1' h2; injection h2 with h2 h3
  subst h1'; subst h2; subst h3
  exact ⟨g1, hV, h1.rebase l1 hR.hbase hR.hbd, ev1, l1⟩
theorem Xhm {env : Env} (hc : Xk2 P env) : ∀ k, Xcb P env.ctx (ev env k)
 | 0 => fun f args S v S' e h => by simp [ev] at h
 | k + 1 => by
  intro f args S v S' e h w g base bd cargs hR hgl hlen hargs
  simp only [ev] at h
  split at h
  ·rename_i hf hi
   exact hc.intr f hf hi args S v S' e h w g base bd cargs hR hgl hlen hargs
  split at h
  ·cases h
  rename_i pf hpf
  split at h
  case isFalse => cases h
  rename_i hle
  have general : ∀ (v1 : PV) (S1 : List SObj) (e1 : Bool), Xd3 env.ctx (ev env k) k pf args S = some (v1, S1, e1) → XfB S.length v1 S1 e1 = (v, S', e) →
    (∃ fn, P.funcs[f]? = some fn ∧ fn.body.isNone = false ∧ fn.name ≠ "runtime.NumGoroutine") ∧ Calls P f cargs w (fun en w' => ∃ rv, en = .returned rv ∧ XbE base bd S g w v S' e rv w') := by
   intro v1 S1 e1 hb hl
   obtain ⟨r1, r2⟩ := Xez hc (Xhm hc k) hpf hle hb hR hgl hlen hargs
   refine ⟨r1, r2.mono ?_⟩
   rintro en w' ⟨rv, g', rfl, q1, q2, q3, q4⟩
   exact ⟨rv, rfl, XjV hR q1 q2 q3 q4 hl⟩
  split at h
  ·rename_i hcl
   split at h
   case h_2 => cases h
   rename_i v1 S1 e1 hb
   split at h
   ·rename_i hvc
    injection h with h; injection h with h1 h2; injection h2 with h2 h3
    subst h1; subst h2; subst h3
    have hR0 : R [] w { g with fix := fun k => k < w.heap.size } 0 (fun _ => 0) :=
     ⟨Nat.le_refl _, fun _ _ => Nat.le_refl _, fun _ hk => hk, hR.hpp, fun id o ho => by simp at ho, fun i j o p ho => by simp at ho⟩
    obtain ⟨r1, r2⟩ := Xez hc (Xhm hc k) hpf (by simpa using hle) hb hR0 hgl.all (by simpa using hlen) (fun i c hi => by
     have hcm := Xb6 hcl hi
     rw [List.getElem?_map] at hi
     cases hi' : args[i]? with
     | none => rw [hi'] at hi; cases hi
     | some d => rw [hi'] at hi; injection hi with hi; subst hi; exact ((hargs i d hi').strip.clean hcm).ghost rfl)
    refine ⟨r1, r2.mono ?_⟩
    rintro en w' ⟨rv, g', rfl, q1, q2, q3, q4⟩
    exact ⟨rv, rfl, XfK hR q2 q3 (q1.strip.clean hvc)⟩
   ·split at h
    case h_2 => cases h
    rename_i v2 S2 e2 hb2
    injection h with h
    exact general v2 S2 e2 hb2 h
  ·split at h
   case h_2 => cases h
   rename_i v2 S2 e2 hb2
   injection h with h
   exact general v2 S2 e2 hb2 h
end
end Go.Pam
namespace Go.Pam
theorem Xc1.mk2 {P : Program} {t : TypeId} {und : TypeDesc} {size bytes : Nat} {zp : PV} {eqok comp : Bool} {mets : List Method} {z : Value} {ms : Array Method} (h1 : P.underlying t = some und)
  (h2 : (P.info? t).map (fun i => (i.size, i.bytes, i.zero, i.comparable, i.methods)) = some (size, bytes, some z, comp, ms)) (h3 : Xmf z = some zp) (h4 : z.cells.size = zp.cells.length)
  (h5 : eqok = true → P.eqGuardType P.depth t = false ∧ P.stoodInHeld t = false) (h6 : ms.toList = mets) :
  Xc1 P t { und := und, size := size, bytes := bytes, zero := zp, eqok := eqok, comp := comp, methods := mets } := by
 refine ⟨h1, ?_, h5⟩
 cases hi : P.info? t with
 | none => simp [hi] at h2
 | some i =>
  simp [hi] at h2
  obtain ⟨a1, a2, a3, a4, a5⟩ := h2
  exact ⟨i, z, rfl, a1, a2, a3, h3, h4, a4, by rw [a5]; exact h6⟩
end Go.Pam
namespace Go.Pam
open Classical in
noncomputable def XoB {α : Type} (f : Nat → Option α) : Option α := if h : ∃ r k, ∀ k', k ≤ k' → f k' = some r then some h.choose else none
theorem XfN {α : Type} {f : Nat → Option α} {r : α} (k : Nat) (h : ∀ k', k ≤ k' → f k' = some r) : XoB f = some r := by
 have hex : ∃ r k, ∀ k', k ≤ k' → f k' = some r := ⟨r, k, h⟩
 unfold XoB
 rw [dif_pos hex]
 obtain ⟨k2, h2⟩ := hex.choose_spec
 have a := h (k + k2) (by omega)
 have b := h2 (k + k2) (by omega)
 rw [a] at b; exact b.symm
theorem XgL {α : Type} {f : Nat → Option α} {r : α} (h : XoB f = some r) : ∃ k, ∀ k', k ≤ k' → f k' = some r := by
 unfold XoB at h
 split at h
 ·rename_i hex
  injection h with h
  have := hex.choose_spec
  rw [h] at this; exact this
 ·cases h
noncomputable def XjW (body : St → Option (Ex × St)) (s : St) : Option (Ex × St) := XoB fun k => rounds body k s
theorem XfO {body : St → Option (Ex × St)} : ∀ {k : Nat} {s : St} {r : Ex × St}, rounds body k s = some r → ∀ k', k ≤ k' → rounds body k' s = some r
 | 0, _, _, h => by cases h
 | k + 1, s, r, h => by
  intro k' hk'
  obtain ⟨j, rfl⟩ : ∃ j, k' = j + 1 := ⟨k' - 1, by omega⟩
  simp only [rounds] at h ⊢
  cases hb : body s with
  | none => rw [hb] at h; cases h
  | some q =>
   rw [hb] at h
   obtain ⟨x, s'⟩ := q
   cases x with
   | normal => exact XfO (k := k) h j (by omega)
   | exit i => exact h
   | ret => exact h
theorem Xhn {body : St → Option (Ex × St)} {k : Nat} {s : St} {r : Ex × St} (h : rounds body k s = some r) : XjW body s = some r := XfN k (XfO h)
theorem XjX {body : St → Option (Ex × St)} {s s' : St} {r : Ex × St} (h : body s = some (.normal, s')) (h2 : XjW body s' = some r) : XjW body s = some r := by
 obtain ⟨k, hk⟩ := XgL h2
 refine Xhn (k := k + 1) ?_
 simp only [rounds, h]
 exact hk k (Nat.le_refl _)
theorem XjY {body : St → Option (Ex × St)} {s s' : St} {i : Nat} (h : body s = some (.exit i, s')) : XjW body s = some (.exit i, s') :=
 Xhn (k := 1) (by simp only [rounds, h])
theorem Xk3 {body : St → Option (Ex × St)} {s s' : St} (h : body s = some (.ret, s')) : XjW body s = some (.ret, s') :=
 Xhn (k := 1) (by simp only [rounds, h])
noncomputable def evw (env : Env) (f : FuncId) (args : List PV) (S : List SObj) : Option (PV × List SObj × Bool) := XoB fun k => ev env k f args S
noncomputable def Xcj (ctx : Ctx) (call : Xcm) (fr : Fr) : PC → St → Option (Ex × St)
 | .skip, s => some (.normal, s)
 | .region ops, s =>
  match XbM ctx call fr ops s.1 s.2.1 s.2.2 with
  | some s' => some (.normal, s')
  | none => none
 | .draw hd tl, s =>
  match XbF ctx call fr s.2.1 hd s.1 with
  | some σ =>
   match XbM ctx call fr tl σ s.2.1 s.2.2 with
   | some s' => some (.normal, s')
   | none => none
  | none => none
 | .drawC hd tl, s =>
  match Xbh ctx call fr hd [] [] s.1 s.2.1 s.2.2 with
  | some s1 =>
   match XbM ctx call fr tl s1.1 s1.2.1 s1.2.2 with
   | some s' => some (.normal, s')
   | none => none
  | none => none
 | .seq a b, s =>
  match Xcj ctx call fr a s with
  | some (.normal, s') => Xcj ctx call fr b s'
  | r => r
 | .cond c a b, s =>
  match opd s.1 c with
  | .bool t => if t then Xcj ctx call fr a s else Xcj ctx call fr b s
  | _ => none
 | .block id c, s =>
  match Xcj ctx call fr c s with
  | some (.exit i, s') => some (if i = id then .normal else .exit i, s')
  | r => r
 | .loop c, s => XjW (Xcj ctx call fr c) s
 | .exit id, s => some (.exit id, s)
 | .ret, s => some (.ret, s)
theorem XjZ {env : Env} {base : Nat} {σ : Nat → PV} {S : List SObj} {op : Op} {r : PV × List SObj × Bool} (h : XaL env.ctx (evw env) base σ S op = some r) :
  ∃ k, ∀ k', k ≤ k' → XaL env.ctx (ev env k') base σ S op = some r := by
 cases op
 case call c =>
  simp only [XaL] at h ⊢
  unfold Xct at h ⊢
  split at h
  all_goals try exact ⟨0, fun _ _ => h⟩
  ·split at h
   ·exact XgL h
   ·cases h
  ·split at h
   ·rename_i hm; exact XgL h
   ·cases h
 all_goals exact ⟨0, fun _ _ => h⟩
theorem Xho {env : Env} {base : Nat} {σ : Nat → PV} {S : List SObj} {p : POp} {r : PV × List SObj × Bool} (h : XaM env.ctx (evw env) base σ S p = some r) :
  ∃ k, ∀ k', k ≤ k' → XaM env.ctx (ev env k') base σ S p = some r := by
 unfold XaM at h ⊢
 simp only at h ⊢
 split at h
 ·rename_i hw
  unfold Xd2 at h ⊢
  split at h
  ·rename_i c hc
   have hp : ∃ k, ∀ k', k ≤ k' → ∀ v, XcP (evw env) (XbD (Xa5 env.ctx σ p.op) σ S).1 c = some v → XcP (ev env k') (XbD (Xa5 env.ctx σ p.op) σ S).1 c = some v := by
    cases hq : XcP (evw env) (XbD (Xa5 env.ctx σ p.op) σ S).1 c with
    | none => exact ⟨0, fun _ _ v hv => by cases hv⟩
    | some u =>
     unfold XcP at hq ⊢
     split at hq
     ·split at hq
      ·split at hq
       ·rename_i hcl
        split at hq
        ·rename_i hcall
         obtain ⟨k, hk⟩ := XgL hcall
         refine ⟨k, fun k' hk' v hv => ?_⟩
         simp only [hcl, if_true, hk k' hk']
         rw [← hv]; exact hq
        ·cases hq
       ·cases hq
      ·cases hq
     ·cases hq
   obtain ⟨k, hk⟩ := hp
   refine ⟨k, fun k' hk' => ?_⟩
   rw [if_pos hw]
   cases hq : XcP (evw env) (XbD (Xa5 env.ctx σ p.op) σ S).1 c with
   | none => rw [hq] at h; cases h
   | some u =>
    rw [hq] at h
    rw [hk k' hk' u hq]
    exact h
  ·exact ⟨0, fun _ _ => by rw [if_pos hw]; exact h⟩
 ·rename_i hw
  obtain ⟨k, hk⟩ := XjZ h
  exact ⟨k, fun k' hk' => by rw [if_neg hw]; exact hk k' hk'⟩
theorem XfP {env : Env} {fr : Fr} : ∀ {l : List POp} {σ : Nat → PV} {S : List SObj} {e : Bool} {r : (Nat → PV) × List SObj × Bool}, XbM env.ctx (evw env) fr l σ S e = some r →
  ∃ k, ∀ k', k ≤ k' → XbM env.ctx (ev env k') fr l σ S e = some r
 | [], σ, S, e, r, h => ⟨0, fun _ _ => h⟩
 | p :: rest, σ, S, e, r, h => by
  simp only [XbM] at h ⊢
  split at h
  case isFalse => cases h
  rename_i hd
  simp only [hd, if_true]
  split at h
  ·cases h
  ·rename_i hw
   obtain ⟨k, hk⟩ := XfP h
   exact ⟨k, hk⟩
  ·rename_i hw
   split at h
   ·cases h
   rename_i v S' e' hs
   obtain ⟨k1, h1⟩ := Xho hs
   obtain ⟨k2, h2⟩ := XfP h
   exact ⟨max k1 k2, fun k' hk' => by rw [h1 k' (by omega)]; exact h2 k' (by omega)⟩
theorem Xhp {env : Env} {fr : Fr} {S : List SObj} : ∀ {l : List POp} {σ : Nat → PV} {r : Nat → PV}, XbF env.ctx (evw env) fr S l σ = some r →
  ∃ k, ∀ k', k ≤ k' → XbF env.ctx (ev env k') fr S l σ = some r
 | [], σ, r, h => ⟨0, fun _ _ => h⟩
 | p :: rest, σ, r, h => by
  simp only [XbF] at h ⊢
  split at h
  case isFalse => cases h
  rename_i hd
  simp only [hd, if_true]
  split at h
  ·cases h
  ·rename_i hw
   obtain ⟨k, hk⟩ := Xhp h
   exact ⟨k, hk⟩
  ·rename_i hw
   split at h
   ·cases h
   rename_i v S' e' hs
   split at h
   case isFalse => cases h
   rename_i hsame
   obtain ⟨k1, h1⟩ := Xho hs
   obtain ⟨k2, h2⟩ := Xhp h
   refine ⟨max k1 k2, fun k' hk' => ?_⟩
   rw [h1 k' (by omega)]
   simp only [hsame, if_true]
   exact h2 k' (by omega)
theorem Xd9 {env : Env} {fr : Fr} : ∀ {l : List POp} {hist : List (List SObj)} {pend : List (TypeId × PV × PV)} {σ : Nat → PV} {S : List SObj} {e : Bool} {r : (Nat → PV) × List SObj × Bool}, Xbh env.ctx (evw env) fr l hist pend σ S e = some r →
  ∃ k, ∀ k', k ≤ k' → Xbh env.ctx (ev env k') fr l hist pend σ S e = some r
 | [], _, _, σ, S, e, r, h => ⟨0, fun _ _ => h⟩
 | p :: rest, hist, pend, σ, S, e, r, h => by
  simp only [Xbh] at h ⊢
  split at h
  case isFalse => cases h
  rename_i hd
  simp only [hd, if_true]
  split at h
  ·cases h
  ·rename_i hw
   obtain ⟨k, hk⟩ := Xd9 h
   exact ⟨k, hk⟩
  ·rename_i hw
   split at h
   ·cases h
   rename_i v S' e' hs
   obtain ⟨k1, h1⟩ := Xho hs
   split at h
   ·rename_i hch
    split at h
    case isFalse => cases h
    rename_i hp
    obtain ⟨k2, h2⟩ := Xd9 h
    refine ⟨max k1 k2, fun k' hk' => ?_⟩
    rw [h1 k' (by omega)]
    simp only [hch, if_true, if_pos hp]
    exact h2 k' (by omega)
   ·rename_i hch
    split at h
    case isFalse => cases h
    rename_i hsame
    split at h
    ·rename_i hin
     obtain ⟨k2, h2⟩ := Xd9 h
     refine ⟨max k1 k2, fun k' hk' => ?_⟩
     rw [h1 k' (by omega)]
     simp only [if_neg hch, hsame, hin, if_true]
     exact h2 k' (by omega)
    ·rename_i hin
     split at h
     case h_2 => cases h
     rename_i t a hlo
     split at h
     case isFalse => cases h
     rename_i hall
     obtain ⟨k2, h2⟩ := Xd9 h
     refine ⟨max k1 k2, fun k' hk' => ?_⟩
     rw [h1 k' (by omega)]
     simp only [if_neg hch, hsame, if_true, if_neg hin, hlo, if_pos hall]
     exact h2 k' (by omega)
theorem XgM {body : St → Option (Ex × St)} {bk : Nat → St → Option (Ex × St)} (hb : ∀ s r, body s = some r → ∃ k, ∀ k', k ≤ k' → bk k' s = some r) :
  ∀ {n : Nat} {s : St} {r : Ex × St}, rounds body n s = some r → ∃ k, ∀ k', k ≤ k' → ∀ m, n ≤ m → rounds (bk k') m s = some r
 | 0, _, _, h => by cases h
 | n + 1, s, r, h => by
  simp only [rounds] at h
  cases hs : body s with
  | none => rw [hs] at h; cases h
  | some q =>
   obtain ⟨k1, h1⟩ := hb s q hs
   rw [hs] at h
   obtain ⟨x, s'⟩ := q
   cases x with
   | normal =>
    obtain ⟨k2, h2⟩ := XgM hb (n := n) h
    refine ⟨max k1 k2, fun k' hk' m hm => ?_⟩
    obtain ⟨j, rfl⟩ : ∃ j, m = j + 1 := ⟨m - 1, by omega⟩
    simp only [rounds, h1 k' (by omega)]
    exact h2 k' (by omega) j (by omega)
   | exit i =>
    refine ⟨k1, fun k' hk' m hm => ?_⟩
    obtain ⟨j, rfl⟩ : ∃ j, m = j + 1 := ⟨m - 1, by omega⟩
    simp only [rounds, h1 k' hk']
    exact h
   | ret =>
    refine ⟨k1, fun k' hk' m hm => ?_⟩
    obtain ⟨j, rfl⟩ : ∃ j, m = j + 1 := ⟨m - 1, by omega⟩
    simp only [rounds, h1 k' hk']
    exact h
theorem Xc9 {env : Env} {fr : Fr} : ∀ (c : PC) (s : St) (r : Ex × St), Xcj env.ctx (evw env) fr c s = some r →
  ∃ k, ∀ k', k ≤ k' → Xbm env.ctx (ev env k') fr k' c s = some r
 | .skip, _, _, h => ⟨0, fun _ _ => h⟩
 | .region ops, s, r, h => by
  simp only [Xcj] at h
  split at h
  ·rename_i s' hs
   obtain ⟨k, hk⟩ := XfP hs
   exact ⟨k, fun k' hk' => by simp only [Xbm, hk k' hk']; exact h⟩
  ·cases h
 | .draw hd tl, s, r, h => by
  simp only [Xcj] at h
  split at h
  case h_2 => cases h
  rename_i σ hσ
  split at h
  case h_2 => cases h
  rename_i s' hs
  obtain ⟨k1, h1⟩ := Xhp hσ
  obtain ⟨k2, h2⟩ := XfP hs
  exact ⟨max k1 k2, fun k' hk' => by simp only [Xbm, h1 k' (by omega), h2 k' (by omega)]; exact h⟩
 | .drawC hd tl, s, r, h => by
  simp only [Xcj] at h
  split at h
  case h_2 => cases h
  rename_i s1 hσ
  split at h
  case h_2 => cases h
  rename_i s' hs
  obtain ⟨k1, h1⟩ := Xd9 hσ
  obtain ⟨k2, h2⟩ := XfP hs
  exact ⟨max k1 k2, fun k' hk' => by simp only [Xbm, h1 k' (by omega), h2 k' (by omega)]; exact h⟩
 | .seq a b, s, r, h => by
  simp only [Xcj] at h
  split at h
  ·rename_i s' hs
   obtain ⟨k1, h1⟩ := Xc9 a s _ hs
   obtain ⟨k2, h2⟩ := Xc9 b s' _ h
   exact ⟨max k1 k2, fun k' hk' => by simp only [Xbm, h1 k' (by omega), h2 k' (by omega)]⟩
  ·rename_i hne
   obtain ⟨k1, h1⟩ := Xc9 a s _ h
   refine ⟨k1, fun k' hk' => ?_⟩
   simp only [Xbm, h1 k' hk']
   obtain ⟨x, s'⟩ := r
   cases x with
   | normal => exact absurd h (hne _)
   | exit i => rfl
   | ret => rfl
 | .cond c a b, s, r, h => by
  simp only [Xcj] at h
  split at h
  ·rename_i t ht
   cases t with
   | true =>
    obtain ⟨k, hk⟩ := Xc9 a s r h
    exact ⟨k, fun k' hk' => by simp only [Xbm, ht]; exact hk k' hk'⟩
   | false =>
    obtain ⟨k, hk⟩ := Xc9 b s r h
    exact ⟨k, fun k' hk' => by simp only [Xbm, ht]; exact hk k' hk'⟩
  ·cases h
 | .block id c, s, r, h => by
  simp only [Xcj] at h
  split at h
  ·rename_i i s' hs
   obtain ⟨k1, h1⟩ := Xc9 c s _ hs
   exact ⟨k1, fun k' hk' => by simp only [Xbm, h1 k' hk']; exact h⟩
  ·rename_i hne
   obtain ⟨k1, h1⟩ := Xc9 c s _ h
   refine ⟨k1, fun k' hk' => ?_⟩
   simp only [Xbm, h1 k' hk']
   obtain ⟨x, s'⟩ := r
   cases x with
   | normal => rfl
   | exit i => exact absurd h (hne _ _)
   | ret => rfl
 | .loop c, s, r, h => by
  simp only [Xcj] at h
  obtain ⟨n, hn⟩ := XgL h
  obtain ⟨k, hk⟩ := XgM (bk := fun k' => Xbm env.ctx (ev env k') fr k' c) (fun s r hs => Xc9 c s r hs) (hn n (Nat.le_refl _))
  exact ⟨max k n, fun k' hk' => by simp only [Xbm]; exact hk k' (by omega) k' (by omega)⟩
 | .exit id, _, _, h => ⟨0, fun _ _ => h⟩
 | .ret, _, _, h => ⟨0, fun _ _ => h⟩
noncomputable def XiM (ctx : Ctx) (call : Xcm) (pf : PFn) (args : List PV) (S : List SObj) : Option (PV × List SObj × Bool) :=
 match Xcj ctx call ⟨pf.ntmps, S.length⟩ pf.body (fun i => args.getD i (.tup []), S, false) with
 | some (.exit _, _) => none
 | some (_, (σ, S', e)) =>
  match XaT ctx S' σ pf.results with
  | some vs => if pf.raw then some (Xal vs, S', e) else some (Xal (Xer vs S').1, (Xer vs S').2, e)
  | none => none
 | none => none
theorem Xfx {env : Env} {pf : PFn} {args : List PV} {S : List SObj} {r : PV × List SObj × Bool} (h : XiM env.ctx (evw env) pf args S = some r) :
  ∃ k, ∀ k', k ≤ k' → Xd3 env.ctx (ev env k') k' pf args S = some r := by
 unfold XiM at h
 split at h
 ·cases h
 ·rename_i x σ S' e hne hs
  obtain ⟨k, hk⟩ := Xc9 _ _ _ hs
  refine ⟨k, fun k' hk' => ?_⟩
  unfold Xd3
  rw [hk k' hk']
  cases x with
  | normal => exact h
  | exit i => exact absurd rfl (hne i)
  | ret => exact h
 ·cases h
def Xa2 (l : List (Nat × PV)) (σ : Nat → PV) : Prop := ∀ p ∈ l, σ p.1 = p.2
def put : List (Nat × PV) → (Nat → PV) → Nat → PV
 | [], σ => σ
 | p :: l, σ => fun i => if i = p.1 then p.2 else put l σ i
theorem XdA {σ : Nat → PV} : ∀ {l : List (Nat × PV)}, Xa2 l σ → put l σ = σ
 | [], _ => rfl
 | p :: l, h => by
  funext i
  simp only [put, XdA (fun q hq => h q (List.mem_cons_of_mem _ hq))]
  split
  ·rename_i he; rw [he]; exact (h p List.mem_cons_self).symm
  ·rfl
theorem Xe0 {σ : Nat → PV} : Xa2 [] σ := fun p hp => by cases hp
theorem XeN {σ : Nat → PV} {i : Nat} {v : PV} {l : List (Nat × PV)} (h : σ i = v) (hl : Xa2 l σ) : Xa2 ((i, v) :: l) σ := fun p hp => by
 rcases List.mem_cons.1 hp with rfl | hp
 ·exact h
 ·exact hl p hp
theorem XoP {env : Env} {f : FuncId} {args : List PV} {S : List SObj} {r : PV × List SObj × Bool} (h : evw env f args S = some r) : ∃ k, ev env k f args S = some r := by
 obtain ⟨k, hk⟩ := XgL h
 exact ⟨k, hk k (Nat.le_refl _)⟩
abbrev KV := PV → List SObj → Bool → Prop
abbrev KS := (Nat → PV) → List SObj → Bool → Prop
theorem XfQ : ∀ (x : List (PV × PV)), XeY x x = true
 | [] => rfl
 | x :: xs => by simp [XeY, PV.same_refl, XfQ xs]
theorem XeO : ∀ (S : List SObj), Xcn S S = true
 | [] => rfl
 | x :: xs => by
  simp only [Xcn, XeO xs, Bool.and_true]
  cases x <;> simp [SObj.same, XbZ, XfQ]
end Go.Pam
namespace Go.Pam
open Go.RowKit
def XoQ (w : World) (b : Nat) : Nat := match w.heap[b]? with
 | some (.cells cur _ _) => cur.size
 | _ => 0
def g0 (w : World) : G := { pp := XoQ w, loc := fun _ => 0, hw := fun _ => 0, tsz := fun _ => 0, obj := fun _ => false, fix := fun k => k < w.heap.size }
theorem r0 (w : World) : R [] w (g0 w) 0 (fun _ => 0) :=
 ⟨Nat.le_refl _, fun _ _ => Nat.le_refl _, fun _ hk => hk, fun b hb => by
  show XoQ w b = 0
  unfold XoQ
  rw [Array.getElem?_eq_none hb], fun id o ho => by simp at ho, fun i j o p ho => by simp at ho⟩
theorem XmD {P : Program} {env : Env} (hc : Xk2 P env) {f : FuncId} {args : List PV} {cargs : Array Value} {w : World} {v : PV} {S' : List SObj} {e : Bool} (h : evw env f args [] = some (v, S', e))
  (hl : args.length = cargs.size) (hV : ∀ (i : Nat) (c : PV), args[i]? = some c → V (g0 w) w 0 c (cargs.getD i undef)) (hz : ∀ p ∈ env.ctx.gls, w.cell? ⟨p.1, 0, none⟩ = some p.2 := by intro p hp; cases hp) :
  Calls P f cargs w fun en w' => ∃ rv g', en = .returned rv ∧ V g' w' S'.length v rv ∧ Below w.heap.size w w' := by
 obtain ⟨k, hk⟩ := XoP h
 obtain ⟨_, hc⟩ := Xhm hc k f args [] v S' e hk w (g0 w) 0 (fun _ => 0) cargs (r0 w) (fun p hp => ⟨Xk0 (hz p hp), hz p hp⟩) hl hV
 refine hc.mono ?_
 rintro en w' ⟨rv, rfl, g', h1, _, h3, _⟩
 exact ⟨rv, g', rfl, h1, h3.os, h3.tape, h3.output, h3.size, fun k hk => h3.low k hk⟩
theorem Xk4 {P : Program} {env : Env} (hc : Xk2 P env) {f : FuncId} {args : List PV} {cargs : Array Value} {w : World} {S' : List SObj} {e : Bool} (h : evw env f args [] = some (.bool true, S', e))
  (hl : args.length = cargs.size) (hV : ∀ (i : Nat) (c : PV), args[i]? = some c → V (g0 w) w 0 c (cargs.getD i undef)) (hz : ∀ p ∈ env.ctx.gls, w.cell? ⟨p.1, 0, none⟩ = some p.2 := by intro p hp; cases hp) :
  Calls P f cargs w fun en w' => en = .returned (.bool true) ∧ Below w.heap.size w w' := by
 refine (XmD hc h hl hV hz).mono ?_
 rintro en w' ⟨rv, g', rfl, h1, h2⟩
 rw [h1.inv_bool]
 exact ⟨rfl, h2⟩
inductive AllV (w : World) : List PV → List Value → Prop
 | nil : AllV w [] []
 | cons {c : PV} {v : Value} {cs : List PV} {vs : List Value} (h : V (g0 w) w 0 c v) (hs : AllV w cs vs) : AllV w (c :: cs) (v :: vs)
theorem XmE {w : World} {args : List PV} {cargs : List Value} (h : AllV w args cargs) : args.length = cargs.toArray.size ∧ ∀ (i : Nat) (c : PV), args[i]? = some c → V (g0 w) w 0 c (cargs.toArray.getD i undef) := by
 induction h with
 | nil => exact ⟨rfl, fun i c h => by simp at h⟩
 | cons h1 _ ih =>
  refine ⟨by simpa using ih.1, fun i c hi => ?_⟩
  cases i with
  | zero => simp at hi; subst hi; simpa using h1
  | succ i => simpa using ih.2 i c (by simpa using hi)
end Go.Pam
namespace Go.Pam
theorem XmF {S' T : List SObj} (h1 : T.length ≤ S'.length) (h2 : ∀ i, i < T.length → S'[i]? = T[i]?) : S'.take T.length = T := by
 apply List.ext_getElem?
 intro i
 rw [List.getElem?_take]
 by_cases hi : i < T.length
 ·rw [if_pos hi]; exact h2 i hi
 ·rw [if_neg hi, List.getElem?_eq_none (by omega)]
theorem Xl1 {S S' T : List SObj} {v v' : PV} {e : Bool} (he : e = false) (hv : v.strip = v') (hc : v'.clean = true) (hn : T.length = S.length) (h1 : S.length ≤ S'.length) (h2 : ∀ i, i < S.length → S'[i]? = T[i]?) :
  XfB S.length v S' e = (v', T, false) := by
 unfold XfB
 rw [if_pos ⟨he, by rw [hv]; exact hc⟩, hv, ← hn, XmF (by omega) (by rw [hn]; exact h2)]
end Go.Pam
namespace Go.Pam
abbrev KX := Ex → (Nat → PV) → List SObj → Bool → Prop
def WO (env : Env) (fr : Fr) (ops : List POp) (σ : Nat → PV) (S : List SObj) (e : Bool) (K : KS) : Prop :=
 ∃ σ' S' e', XbM env.ctx (evw env) fr ops σ S e = some (σ', S', e') ∧ K σ' S' e'
def WH (env : Env) (fr : Fr) (ops : List POp) (σ : Nat → PV) (S : List SObj) (K : (Nat → PV) → Prop) : Prop :=
 ∃ σ', XbF env.ctx (evw env) fr S ops σ = some σ' ∧ K σ'
def WC (env : Env) (fr : Fr) (c : PC) (σ : Nat → PV) (S : List SObj) (e : Bool) (K : KX) : Prop :=
 ∃ x σ' S' e', Xcj env.ctx (evw env) fr c (σ, S, e) = some (x, σ', S', e') ∧ K x σ' S' e'
noncomputable abbrev stF (env : Env) (fr : Fr) (σ : Nat → PV) (S : List SObj) (p : POp) := XaM env.ctx (evw env) fr.base σ S p
noncomputable abbrev stp (env : Env) (fr : Fr) (σ : Nat → PV) (S : List SObj) (op : Op) := XaL env.ctx (evw env) fr.base σ S op
variable {env : Env} {fr : Fr}
theorem nz {σ : Nat → PV} {S : List SObj} {d : Option Nat} {op : Op} {g : Option (Nat × Bool)} {r : Option (PV × List SObj × Bool)} (hz : XbD (Xa5 env.ctx σ op) σ S = (σ, S)) (hs : stp env fr σ S op = r) : stF env fr σ S ⟨d, op, g, false⟩ = r := by
 show XaM env.ctx (evw env) fr.base σ S ⟨d, op, g, false⟩ = r
 unfold XaM
 simp only [hz, Bool.false_eq_true, if_false]
 exact hs
theorem yz {σ σ1 : Nat → PV} {S S1 : List SObj} {d : Option Nat} {op : Op} {g : Option (Nat × Bool)} {r : Option (PV × List SObj × Bool)} (hz : XbD (Xa5 env.ctx σ op) σ S = (σ1, S1)) (hs : stp env fr σ1 S1 op = r) : stF env fr σ S ⟨d, op, g, false⟩ = r := by
 show XaM env.ctx (evw env) fr.base σ S ⟨d, op, g, false⟩ = r
 unfold XaM
 simp only [hz, Bool.false_eq_true, if_false]
 exact hs
theorem bz {σ σ1 : Nat → PV} {S S1 S' : List SObj} {v : PV} {d : Option Nat} {op : Op} {g : Option (Nat × Bool)} (hz : XbD (Xa5 env.ctx σ op) σ S = (σ1, S1)) (hs : Xbu env.ctx σ1 S1 op = some (v, S')) (hc : XeG op = none := by rfl) : stF env fr σ S ⟨d, op, g, true⟩ = some (v, S', false) := by
 show XaM env.ctx (evw env) fr.base σ S ⟨d, op, g, true⟩ = _
 unfold XaM
 simp only [hz, if_true, Xd2, hc, hs, Option.map_some]
theorem WO.nil {σ S e} {K : KS} (h : K σ S e) : WO env fr [] σ S e K := ⟨_, _, _, rfl, h⟩
theorem WO.step {op : Op} {d : Option Nat} {wr : Bool} {rest : List POp} {σ S e S'} {v : PV} {e' : Bool} {K : KS} (hd : XaS fr.ntmps d = true)
  (hs : stF env fr σ S ⟨d, op, none, wr⟩ = some (v, S', e')) (h : WO env fr rest (upd σ d v) S' (e || e') K) : WO env fr (⟨d, op, none, wr⟩ :: rest) σ S e K := by
 obtain ⟨σ1, S1, e1, h1, h2⟩ := h
 refine ⟨σ1, S1, e1, ?_, h2⟩
 unfold XbM
 simp only [hd, if_true, XaE]
 unfold stF at hs
 rw [hs]
 exact h1
theorem WO.go {op : Op} {d : Option Nat} {t : Nat} {want b : Bool} {wr : Bool} {rest : List POp} {σ S e S'} {v : PV} {e' : Bool} {K : KS} (hd : XaS fr.ntmps d = true)
  (hb : σ t = .bool b) (hw : (b == want) = true)
  (hs : stF env fr σ S ⟨d, op, some (t, want), wr⟩ = some (v, S', e')) (h : WO env fr rest (upd σ d v) S' (e || e') K) : WO env fr (⟨d, op, some (t, want), wr⟩ :: rest) σ S e K := by
 obtain ⟨σ1, S1, e1, h1, h2⟩ := h
 refine ⟨σ1, S1, e1, ?_, h2⟩
 unfold XbM
 simp only [hd, if_true, XaE, hb, hw]
 unfold stF at hs
 rw [hs]
 exact h1
theorem WO.by {op : Op} {d : Option Nat} {t : Nat} {want b : Bool} {wr : Bool} {rest : List POp} {σ S e} {K : KS} (hd : XaS fr.ntmps d = true)
  (hb : σ t = .bool b) (hw : (b == want) = false) (h : WO env fr rest (upd σ d (.tup [])) S e K) : WO env fr (⟨d, op, some (t, want), wr⟩ :: rest) σ S e K := by
 obtain ⟨σ1, S1, e1, h1, h2⟩ := h
 refine ⟨σ1, S1, e1, ?_, h2⟩
 unfold XbM
 simp only [hd, if_true, XaE, hb, hw]
 exact h1
theorem WO.by0 {op : Op} {d : Option Nat} {t : Nat} {want : Bool} {wr : Bool} {rest : List POp} {σ S e} {K : KS} (hd : XaS fr.ntmps d = true)
  (hb : σ t = .tup []) (h : WO env fr rest (upd σ d (.tup [])) S e K) : WO env fr (⟨d, op, some (t, want), wr⟩ :: rest) σ S e K := by
 obtain ⟨σ1, S1, e1, h1, h2⟩ := h
 refine ⟨σ1, S1, e1, ?_, h2⟩
 unfold XbM
 simp only [hd, if_true, XaE, hb]
 exact h1
theorem XdB (ctx : Ctx) (call : Xcm) (fr : Fr) : ∀ (l r : List POp) (σ : Nat → PV) (S : List SObj) (e : Bool),
  XbM ctx call fr (l ++ r) σ S e = match XbM ctx call fr l σ S e with | some (σ', S', e') => XbM ctx call fr r σ' S' e' | none => none
 | [], r, σ, S, e => rfl
 | p :: l, r, σ, S, e => by
  rw [List.cons_append, XbM, XbM]
  split
  ·split
   ·rfl
   ·exact XdB ctx call fr l r _ _ _
   ·split
    ·rfl
    ·exact XdB ctx call fr l r _ _ _
  ·rfl
theorem WO.split (n : Nat) {l : List POp} {σ S e} {K : KS} (P : KS) (h : WO env fr (l.take n) σ S e P) (h2 : ∀ σ' S' e', P σ' S' e' → WO env fr (l.drop n) σ' S' e' K) : WO env fr l σ S e K := by
 obtain ⟨σ1, S1, e1, h1, hp⟩ := h
 obtain ⟨σ2, S2, e2, h3, h4⟩ := h2 _ _ _ hp
 refine ⟨σ2, S2, e2, ?_, h4⟩
 rw [← List.take_append_drop n l, XdB, h1]
 exact h3
theorem WO.mono {l : List POp} {σ S e} {K K' : KS} (h : WO env fr l σ S e K) (hk : ∀ σ' S' e', K σ' S' e' → K' σ' S' e') : WO env fr l σ S e K' := by
 obtain ⟨σ1, S1, e1, h1, h2⟩ := h
 exact ⟨_, _, _, h1, hk _ _ _ h2⟩
theorem WH.nil {σ S} {K : (Nat → PV) → Prop} (h : K σ) : WH env fr [] σ S K := ⟨_, rfl, h⟩
theorem XiN {S' S : List SObj} {e' : Bool} (hS : S' = S) (he : e' = false) : (Xcn S' S && !e') = true := by
 subst hS he; simp [XeO]
theorem WH.step {op : Op} {d : Option Nat} {wr : Bool} {rest : List POp} {σ S S'} {v : PV} {e' : Bool} {K : (Nat → PV) → Prop} (hd : XaS fr.ntmps d = true)
  (hs : stF env fr σ S ⟨d, op, none, wr⟩ = some (v, S', e')) (hS : S' = S) (he : e' = false) (h : WH env fr rest (upd σ d v) S K) : WH env fr (⟨d, op, none, wr⟩ :: rest) σ S K := by
 obtain ⟨σ1, h1, h2⟩ := h
 refine ⟨σ1, ?_, h2⟩
 unfold XbF
 simp only [hd, if_true, XaE]
 unfold stF at hs
 rw [hs]
 simp only [XiN hS he, if_true]
 exact h1
theorem WH.go {op : Op} {d : Option Nat} {t : Nat} {want b : Bool} {wr : Bool} {rest : List POp} {σ S S'} {v : PV} {e' : Bool} {K : (Nat → PV) → Prop} (hd : XaS fr.ntmps d = true)
  (hb : σ t = .bool b) (hw : (b == want) = true)
  (hs : stF env fr σ S ⟨d, op, some (t, want), wr⟩ = some (v, S', e')) (hS : S' = S) (he : e' = false) (h : WH env fr rest (upd σ d v) S K) : WH env fr (⟨d, op, some (t, want), wr⟩ :: rest) σ S K := by
 obtain ⟨σ1, h1, h2⟩ := h
 refine ⟨σ1, ?_, h2⟩
 unfold XbF
 simp only [hd, if_true, XaE, hb, hw]
 unfold stF at hs
 rw [hs]
 simp only [XiN hS he, if_true]
 exact h1
theorem WH.by {op : Op} {d : Option Nat} {t : Nat} {want b : Bool} {wr : Bool} {rest : List POp} {σ S} {K : (Nat → PV) → Prop} (hd : XaS fr.ntmps d = true)
  (hb : σ t = .bool b) (hw : (b == want) = false) (h : WH env fr rest (upd σ d (.tup [])) S K) : WH env fr (⟨d, op, some (t, want), wr⟩ :: rest) σ S K := by
 obtain ⟨σ1, h1, h2⟩ := h
 refine ⟨σ1, ?_, h2⟩
 unfold XbF
 simp only [hd, if_true, XaE, hb, hw]
 exact h1
theorem WH.by0 {op : Op} {d : Option Nat} {t : Nat} {want : Bool} {wr : Bool} {rest : List POp} {σ S} {K : (Nat → PV) → Prop} (hd : XaS fr.ntmps d = true)
  (hb : σ t = .tup []) (h : WH env fr rest (upd σ d (.tup [])) S K) : WH env fr (⟨d, op, some (t, want), wr⟩ :: rest) σ S K := by
 obtain ⟨σ1, h1, h2⟩ := h
 refine ⟨σ1, ?_, h2⟩
 unfold XbF
 simp only [hd, if_true, XaE, hb]
 exact h1
theorem Xdr (ctx : Ctx) (call : Xcm) (fr : Fr) (S : List SObj) : ∀ (l r : List POp) (σ : Nat → PV),
  XbF ctx call fr S (l ++ r) σ = match XbF ctx call fr S l σ with | some σ' => XbF ctx call fr S r σ' | none => none
 | [], r, σ => rfl
 | p :: l, r, σ => by
  rw [List.cons_append, XbF, XbF]
  split
  ·split
   ·rfl
   ·exact Xdr ctx call fr S l r _
   ·split
    ·rfl
    ·split
     ·exact Xdr ctx call fr S l r _
     ·rfl
  ·rfl
theorem WH.split (n : Nat) {l : List POp} {σ S} {K : (Nat → PV) → Prop} (P : (Nat → PV) → Prop) (h : WH env fr (l.take n) σ S P) (h2 : ∀ σ', P σ' → WH env fr (l.drop n) σ' S K) : WH env fr l σ S K := by
 obtain ⟨σ1, h1, hp⟩ := h
 obtain ⟨σ2, h3, h4⟩ := h2 _ hp
 refine ⟨σ2, ?_, h4⟩
 rw [← List.take_append_drop n l, Xdr, h1]
 exact h3
/-! Code -/
theorem WC.skip {σ S e} {K : KX} (h : K .normal σ S e) : WC env fr .skip σ S e K := ⟨_, _, _, _, rfl, h⟩
theorem WC.ret {σ S e} {K : KX} (h : K .ret σ S e) : WC env fr .ret σ S e K := ⟨_, _, _, _, rfl, h⟩
theorem WC.exit {i : Nat} {σ S e} {K : KX} (h : K (.exit i) σ S e) : WC env fr (.exit i) σ S e K := ⟨_, _, _, _, rfl, h⟩
theorem WC.region {ops : List POp} {σ S e} {K : KX} (h : WO env fr ops σ S e fun σ' S' e' => K .normal σ' S' e') : WC env fr (.region ops) σ S e K := by
 obtain ⟨σ1, S1, e1, h1, h2⟩ := h
 refine ⟨_, _, _, _, ?_, h2⟩
 simp only [Xcj, h1]
theorem WC.draw {hd tl : List POp} {σ S e} {K : KX} (h : WH env fr hd σ S fun σ' => WO env fr tl σ' S e fun σ' S' e' => K .normal σ' S' e') : WC env fr (.draw hd tl) σ S e K := by
 obtain ⟨σ1, h1, σ2, S2, e2, h2, h3⟩ := h
 refine ⟨_, _, _, _, ?_, h3⟩
 simp only [Xcj, h1, h2]
theorem WC.mono {c : PC} {σ S e} {K K' : KX} (h : WC env fr c σ S e K) (hk : ∀ x σ' S' e', K x σ' S' e' → K' x σ' S' e') : WC env fr c σ S e K' := by
 obtain ⟨x, σ1, S1, e1, h1, h2⟩ := h
 exact ⟨_, _, _, _, h1, hk _ _ _ _ h2⟩
def KX.seq (K : KX) (P : KS) : KX := fun x σ S e => match x with
 | .normal => P σ S e
 | .exit i => K (.exit i) σ S e
 | .ret => K .ret σ S e
theorem WC.seqJ {a b : PC} {σ S e} {K : KX} (P : KS) (h : WC env fr a σ S e (K.seq P)) (h2 : ∀ σ' S' e', P σ' S' e' → WC env fr b σ' S' e' K) : WC env fr (.seq a b) σ S e K := by
 obtain ⟨x, σ1, S1, e1, h1, hp⟩ := h
 cases x with
 | normal =>
  obtain ⟨y, σ2, S2, e2, h3, h4⟩ := h2 _ _ _ hp
  exact ⟨_, _, _, _, by simp only [Xcj, h1]; exact h3, h4⟩
 | exit i => exact ⟨_, _, _, _, by simp only [Xcj, h1], hp⟩
 | ret => exact ⟨_, _, _, _, by simp only [Xcj, h1], hp⟩
theorem WC.seq {a b : PC} {σ S e} {K : KX} (h : WC env fr a σ S e (K.seq fun σ' S' e' => WC env fr b σ' S' e' K)) : WC env fr (.seq a b) σ S e K :=
 WC.seqJ _ h fun _ _ _ h => h
theorem WC.seqR {ops : List POp} {b : PC} {σ S e} {K : KX} (h : WO env fr ops σ S e fun σ' S' e' => WC env fr b σ' S' e' K) : WC env fr (.seq (.region ops) b) σ S e K :=
 WC.seq (WC.region h)
theorem WC.condT {c : Operand} {a b : PC} {t : Bool} {σ S e} {K : KX} (hc : opd σ c = .bool t) (ht : t = true) (h : WC env fr a σ S e K) : WC env fr (.cond c a b) σ S e K := by
 obtain ⟨x, σ1, S1, e1, h1, h2⟩ := h
 exact ⟨_, _, _, _, by simp only [Xcj, hc, ht, if_true]; exact h1, h2⟩
theorem WC.condF {c : Operand} {a b : PC} {t : Bool} {σ S e} {K : KX} (hc : opd σ c = .bool t) (ht : t = false) (h : WC env fr b σ S e K) : WC env fr (.cond c a b) σ S e K := by
 obtain ⟨x, σ1, S1, e1, h1, h2⟩ := h
 exact ⟨_, _, _, _, by simp only [Xcj, hc, ht, Bool.false_eq_true, if_false]; exact h1, h2⟩
def KX.block (K : KX) (id : Nat) : KX := fun x σ S e => match x with
 | .normal => K .normal σ S e
 | .exit i => if i = id then K .normal σ S e else K (.exit i) σ S e
 | .ret => K .ret σ S e
theorem WC.block {id : Nat} {c : PC} {σ S e} {K : KX} (h : WC env fr c σ S e (K.block id)) : WC env fr (.block id c) σ S e K := by
 obtain ⟨x, σ1, S1, e1, h1, h2⟩ := h
 cases x with
 | normal => exact ⟨_, _, _, _, by simp only [Xcj, h1], h2⟩
 | exit i =>
  simp only [KX.block] at h2
  split at h2
  ·rename_i hi; exact ⟨_, _, _, _, by simp only [Xcj, h1, hi, if_true], h2⟩
  ·rename_i hi; exact ⟨_, _, _, _, by simp only [Xcj, h1, hi, if_false], h2⟩
 | ret => exact ⟨_, _, _, _, by simp only [Xcj, h1], h2⟩
def KX.loop (K : KX) (P : KS) : KX := fun x σ S e => match x with
 | .normal => P σ S e
 | .exit i => K (.exit i) σ S e
 | .ret => K .ret σ S e
theorem WC.loop {c : PC} {σ S e} {K : KX} (h : WC env fr c σ S e (K.seq fun σ' S' e' => WC env fr (.loop c) σ' S' e' K)) : WC env fr (.loop c) σ S e K := by
 obtain ⟨x, σ1, S1, e1, h1, h2⟩ := h
 cases x with
 | normal =>
  obtain ⟨y, σ2, S2, e2, h3, h4⟩ := h2
  exact ⟨_, _, _, _, XjX h1 h3, h4⟩
 | exit i => exact ⟨_, _, _, _, XjY h1, h2⟩
 | ret => exact ⟨_, _, _, _, Xk3 h1, h2⟩
/-! Bodies -/
def WB (env : Env) (pf : PFn) (args : List PV) (S : List SObj) (K : KV) : Prop :=
 WC env ⟨pf.ntmps, S.length⟩ pf.body (fun i => args.getD i (.tup [])) S false fun x σ S' e => match x with
  | .normal => ∃ vs, XaT env.ctx S' σ pf.results = some vs ∧ if pf.raw then K (Xal vs) S' e else K (Xal (Xer vs S').1) (Xer vs S').2 e
  | .exit _ => False
  | .ret => ∃ vs, XaT env.ctx S' σ pf.results = some vs ∧ if pf.raw then K (Xal vs) S' e else K (Xal (Xer vs S').1) (Xer vs S').2 e
theorem WB.run {pf : PFn} {args : List PV} {S : List SObj} {K : KV} (h : WB env pf args S K) : ∃ v S' e, XiM env.ctx (evw env) pf args S = some (v, S', e) ∧ K v S' e := by
 obtain ⟨x, σ1, S1, e1, h1, h2⟩ := h
 have h1' : Xcj env.ctx (evw env) ⟨pf.ntmps, S.length⟩ pf.body (fun i => args.getD i (.tup []), S, false) = some (x, σ1, S1, e1) := h1
 cases x with
 | normal =>
  obtain ⟨vs, h3, h4⟩ := h2
  split at h4
  ·rename_i hr; exact ⟨_, _, _, by unfold XiM; simp only [h1', h3, hr, if_true], h4⟩
  ·rename_i hr; exact ⟨_, _, _, by unfold XiM; simp only [h1', h3, if_neg hr], h4⟩
 | exit i => exact h2.elim
 | ret =>
  obtain ⟨vs, h3, h4⟩ := h2
  split at h4
  ·rename_i hr; exact ⟨_, _, _, by unfold XiM; simp only [h1', h3, hr, if_true], h4⟩
  ·rename_i hr; exact ⟨_, _, _, by unfold XiM; simp only [h1', h3, if_neg hr], h4⟩
theorem Xie {f : FuncId} {pf : PFn} (hi : env.intr f = none) (hf : env.fn f = some pf) {args bs : List PV} {S : List SObj} {v' : PV}
  (ha : args.map PV.strip = bs) (hl : bs.length ≤ pf.ntmps) (hc : XaW bs = true) (hvc : v'.clean = true)
  (h : WB env pf bs [] fun v _ _ => v.strip = v') : evw env f args S = some (v', S, false) := by
 obtain ⟨w, S1, e1, hb, hv⟩ := h.run
 obtain ⟨k, hk⟩ := Xfx hb
 refine XfN (k + 1) fun k' hk' => ?_
 obtain ⟨j, rfl⟩ : ∃ j, k' = j + 1 := ⟨k' - 1, by omega⟩
 have hl' : args.length ≤ pf.ntmps := by rw [← ha] at hl; simpa using hl
 simp only [ev, hi, hf, hl', if_true, ha, hc, hk j (by omega), hv, hvc]
theorem Xka {f : FuncId} {pf : PFn} (hi : env.intr f = none) (hf : env.fn f = some pf) {args : List PV} {S : List SObj} {K : PV × List SObj × Bool → Prop}
  (hl : args.length ≤ pf.ntmps) (hc : XaW (args.map PV.strip) = false)
  (h : WB env pf args S fun v S' e => K (XfB S.length v S' e)) : ∃ r, evw env f args S = some r ∧ K r := by
 obtain ⟨w, S1, e1, hb, hv⟩ := h.run
 obtain ⟨k, hk⟩ := Xfx hb
 refine ⟨_, XfN (k + 1) fun k' hk' => ?_, hv⟩
 obtain ⟨j, rfl⟩ : ∃ j, k' = j + 1 := ⟨k' - 1, by omega⟩
 simp only [ev, hi, hf, hl, if_true, hc, hk j (by omega), Bool.false_eq_true, if_false]
end Go.Pam
namespace Go.Pam
abbrev Str := List UInt8
abbrev Sl (α : Type) := Option (List α)
def Sl.l {α : Type} (x : Sl α) : List α := x.getD []
def Sl.len {α : Type} (x : Sl α) : Int := (x.l.length : Nat)
def Sl.at? {α : Type} (x : Sl α) (i : Int) : Option α := if 0 ≤ i then x.l[i.toNat]? else none
def Sl.isNil {α : Type} (x : Sl α) : Bool := x.isNone
def Sl.sub? {α : Type} (x : Sl α) (l h : Int) : Option (Sl α) :=
 if 0 ≤ l ∧ l ≤ h ∧ h ≤ x.l.length then some (x.map fun xs => (xs.take h.toNat).drop l.toNat) else none
def Sl.app? {α : Type} (bytes : Nat) (x : Sl α) (ys : List α) : Option (Sl α) :=
 if (x.l.length + ys.length) * bytes ≤ 2 ^ 47 then some (if ys.isEmpty then x else some (x.l ++ ys)) else none
def Str.len (s : Str) : Int := (s.length : Nat)
def Str.at? (s : Str) (i : Int) : Option Int := if 0 ≤ i then (s[i.toNat]?).map fun b => (b.toNat : Int) else none
def Str.sub? (s : Str) (l h : Int) : Option Str := if 0 ≤ l ∧ l ≤ h ∧ h ≤ s.length then some ((s.take h.toNat).drop l.toNat) else none
def Str.app? (a b : Str) : Option Str := if ((a.length + b.length : Nat) : Int) > IntKind.i64.max then none else some (a ++ b)
def Str.bytes (s : Str) : Sl Int := some (s.map fun b => (b.toNat : Int))
def Str.of (x : Sl Int) : Str := x.l.map fun n => UInt8.ofNat n.toNat
def ad (k : IntKind) (x y : Int) : Int := k.wrap (x + y)
def sb (k : IntKind) (x y : Int) : Int := k.wrap (x - y)
def ml (k : IntKind) (x y : Int) : Int := k.wrap (x * y)
def cv (k : IntKind) (x : Int) : Int := k.wrap x
def Xej (k : IntKind) (x y : Int) : Int := k.wrap (BitVec.ofInt k.bits x &&& BitVec.ofInt k.bits y).toNat
def bOr (k : IntKind) (x y : Int) : Int := k.wrap (BitVec.ofInt k.bits x ||| BitVec.ofInt k.bits y).toNat
def Xll (k : IntKind) (x y : Int) : Int := k.wrap (BitVec.ofInt k.bits x ^^^ BitVec.ofInt k.bits y).toNat
def XtZ (k : IntKind) (x y : Int) : Option Int := if y = 0 then none else some (k.wrap (x.tdiv y))
def Xl2 (x y : Int) : Option Int := if y = 0 then none else some (x.tmod y)
def Xlm (k : IntKind) (x y : Int) : Option Int := if y < 0 then none else some (k.wrap (x * 2 ^ (min y.toNat k.bits)))
def Xln (k : IntKind) (x y : Int) : Option Int := if y < 0 then none else some (x.fdiv (2 ^ (min y.toNat k.bits)))
def Xkb (x y : Int) : Int := if y < x then y else x
def Xtw (x y : Int) : Int := if x < y then y else x
theorem Xaf {α β : Type} {x : Option α} {f : α → Option β} {r : β} (h : x.bind f = some r) : ∃ y, x = some y ∧ f y = some r := by
 cases x with
 | none => cases h
 | some a => exact ⟨a, rfl, h⟩
theorem Xa1 {α : Type} {c : Bool} {a b : Option α} {r : α} (h : (if c = true then a else b) = some r) : c = true ∧ a = some r ∨ c = false ∧ b = some r := by
 cases c
 ·exact .inr ⟨rfl, h⟩
 ·exact .inl ⟨rfl, h⟩
inductive Out (R V : Type) where
 | ret (r : R)
 | brk (v : V)
/-! Slices -/
abbrev eI (k : IntKind) (n : Int) : PV := .int k n
abbrev eB (b : Bool) : PV := .bool b
abbrev eS (s : Str) : PV := .str s
def Xar {α : Type} (f : α → PV) : Sl α → PV
 | none => .nils
 | some l => .lst (l.map f) .none
def Xa8 {α : Type} (f : α → PV) (x : Sl α) (v : PV) : Prop := match x with
 | none => v = .nils
 | some l => ∃ tag, v = .lst (l.map f) tag
theorem XcR {α : Type} (f : α → PV) (x : Sl α) : Xa8 f x (Xar f x) := by
 cases x
 ·rfl
 ·exact ⟨_, rfl⟩
theorem Xam {α : Type} (f : α → PV) : Xa8 f none .nils := rfl
theorem Xa8.strip {α : Type} {f : α → PV} {x : Sl α} {v : PV} (h : Xa8 f x v) : v.strip = Xar f x := by
 cases x
 ·cases h; rfl
 ·obtain ⟨tag, rfl⟩ := h; rfl
theorem Xa8.strip1 {α : Type} {f : α → PV} {x : Sl α} {v : PV} (h : Xa8 f x v) : v.strip1 = Xar f x := by
 cases x
 ·cases h; rfl
 ·obtain ⟨tag, rfl⟩ := h; rfl
theorem Xa8.strip2 {α : Type} {f : α → PV} {x : Sl α} {v : PV} (h : Xa8 f x v) : v.strip2 = Xar f x := by
 cases x
 ·cases h; rfl
 ·obtain ⟨tag, rfl⟩ := h; rfl
theorem XbS {α : Type} (f : α → PV) (x : Sl α) : (Xar f x).strip = Xar f x := (XcR f x).strip
theorem Xai {α : Type} (f : α → PV) (x : Sl α) : (Xar f x).strip1 = Xar f x := (XcR f x).strip1
theorem XeP {α : Type} (f : α → PV) (x : Sl α) : (Xar f x).strip2 = Xar f x := (XcR f x).strip2
theorem XgN {α : Type} {f : α → PV} (h : ∀ a, (f a).clean = true) : ∀ (l : List α), XaW (l.map f) = true
 | [] => rfl
 | a :: l => by simp [XaW, h a, XgN h l]
theorem XaR {α : Type} {f : α → PV} (h : ∀ a, (f a).clean = true) (x : Sl α) : (Xar f x).clean = true := by
 cases x with
 | none => rfl
 | some l => simp [Xar, PV.clean, XgN h l]
def One (v : PV) : Prop := v.storable = true ∧ v.cells = [v]
theorem Xa8.one {α : Type} {f : α → PV} {x : Sl α} {v : PV} (h : Xa8 f x v) : One v := by
 cases x
 ·cases h; exact ⟨rfl, rfl⟩
 ·obtain ⟨tag, rfl⟩ := h; exact ⟨rfl, rfl⟩
theorem Xcv {α : Type} {f : α → PV} {n : Nat} (h : ∀ a, (f a).cells.length = n) : ∀ (l : List α), Xbg n (l.map f) = true
 | [] => rfl
 | a :: l => by simp [Xbg, h a, Xcv h l]
variable {env : Env} {fr : Fr} {σ : Nat → PV} {S : List SObj}
theorem XdC {α : Type} {f : α → PV} {x : Sl α} {v : PV} {a : Operand} {t : TypeId} {e : TypeId} (ho : opd σ a = v) (h : Xa8 f x v) (ht : (env.ctx.ty t).map (·.und) = some (.slice e)) :
  stp env fr σ S (.call ⟨.builtin .len, #[a], #[t]⟩) = some (.int .i64 (Sl.len x), S, false) := by
 cases hti : env.ctx.ty t with
 | none => rw [hti] at ht; cases ht
 | some ti =>
  rw [hti] at ht
  have hu : ti.und = .slice e := by simpa using ht
  cases x with
  | none => cases h; simp [stp, XaL, Xct, ho, Xf9, hti, hu, Sl.len, Sl.l]
  | some l => obtain ⟨tag, rfl⟩ := h; simp [stp, XaL, Xct, ho, Xf9, hti, hu, Sl.len, Sl.l]
theorem XaU {s : Str} {a i : Operand} {t : TypeId} {k : IntKind} {n y : Int} (ho : opd σ a = .str s) (hi : opd σ i = .int k n) (ht : (env.ctx.ty t).map (·.und) = some .string) (hy : Str.at? s n = some y) :
  stp env fr σ S (.index t a i) = some (.int .u8 y, S, false) := by
 cases hti : env.ctx.ty t with
 | none => rw [hti] at ht; cases ht
 | some ti =>
  rw [hti] at ht
  have hu : ti.und = .string := by simpa using ht
  unfold Str.at? at hy
  split at hy
  ·rename_i h0
   simp only [stp, XaL, hi, ho, XeE, hti, hu, h0, if_true]
   cases hb : s[n.toNat]? with
   | none => rw [hb] at hy; cases hy
   | some b => rw [hb] at hy; simp only [Option.map_some, Option.some.injEq] at hy; subst hy; rfl
  ·cases hy
theorem Xbv {α : Type} {f : α → PV} {x : Sl α} {v : PV} {a i : Operand} {t e : TypeId} {k : IntKind} {n : Int} {y : α} {sz : Nat} (ho : opd σ a = v) (h : Xa8 f x v) (hi : opd σ i = .int k n)
  (ht : (env.ctx.ty t).map (·.und) = some (.slice e)) (he : (env.ctx.ty e).map (·.size) = some sz) (hy : Sl.at? x n = some y) {cs : List PV} (hcs : (f y).cells = cs) (hc : cs.length = sz) :
  stp env fr σ S (.indexAddr t a i) = some (.iptr cs 0, S, false) := by
 subst hcs
 cases hti : env.ctx.ty t with
 | none => rw [hti] at ht; cases ht
 | some ti =>
  rw [hti] at ht
  have hu : ti.und = .slice e := by simpa using ht
  cases hei : env.ctx.ty e with
  | none => rw [hei] at he; cases he
  | some ei =>
   rw [hei] at he
   have hs : ei.size = sz := by simpa using he
   unfold Sl.at? at hy
   split at hy
   ·rename_i h0
    cases x with
    | none => simp [Sl.l] at hy
    | some l =>
     obtain ⟨tag, rfl⟩ := h
     simp only [Sl.l, Option.getD_some] at hy
     simp only [stp, XaL, hi, ho, XbW, hti, hu, hei, h0, if_true, List.getElem?_map, hy, Option.map_some, hc, hs]
   ·cases hy
theorem XcH {s y : Str} {a : Operand} {lo hi : Option Operand} {t : TypeId} {l h : Int} (ho : opd σ a = .str s) (hl : XaZ (lo.map (opd σ)) 0 = some l) (hh : XaZ (hi.map (opd σ)) s.length = some h)
  (ht : (env.ctx.ty t).map (·.und) = some .string) (hy : Str.sub? s l h = some y) :
  stp env fr σ S (.slice t a lo hi none) = some (.str y, S, false) := by
 cases hti : env.ctx.ty t with
 | none => rw [hti] at ht; cases ht
 | some ti =>
  rw [hti] at ht
  have hu : ti.und = .string := by simpa using ht
  unfold Str.sub? at hy
  split at hy
  ·rename_i h0
   injection hy with hy; subst hy
   simp only [stp, XaL, ho, Xf8, hti, hu, hl, hh, Option.map_none]
   rw [if_pos h0]
   rfl
  ·cases hy
/-! The heap -/
def Xe1 : PV → Option Nat
 | .lst _ (.tip id) => some id
 | _ => none
inductive App (S : List SObj) (sz : Nat) : PV → Prop
 | nil : App S sz .nils
 | full (xs : List PV) (h : Xbg sz xs = true) : App S sz (.lst xs .full)
 | tip (xs : List PV) (id : Nat) (h : S[id]? = some (.tip xs.length sz)) : App S sz (.lst xs (.tip id))
def SObj.kind : SObj → Nat
 | .cells _ => 0
 | .map _ => 0
 | .row _ _ _ => 1
 | .tip _ _ => 2
 | .dead => 3
 | .bld _ _ _ => 0
 | .buf _ _ => 1
def Xde : PV → Option Nat
 | .rsl id _ => some id
 | .ptr id _ => some id
 | _ => none
structure Hp (S0 : List SObj) (R : List Nat) (S : List SObj) (C : List (Nat × SObj)) (A : List (PV × Nat)) (W : List (PV × SObj)) : Prop where
 len : S0.length ≤ S.length
 old : ∀ i, i < S0.length → i ∉ R → S[i]? = S0[i]?
 cel : ∀ p ∈ C, (S0.length ≤ p.1 ∨ p.1 ∈ R) ∧ S[p.1]? = some p.2 ∧ p.2.kind = 0
 nod : C.Pairwise fun p q => p.1 ≠ q.1
 app : ∀ q ∈ A, App S q.2 q.1 ∧ ∀ id, Xe1 q.1 = some id → S0.length ≤ id
 dis : A.Pairwise fun p q => Xe1 p.1 = none ∨ Xe1 p.1 ≠ Xe1 q.1
 row : ∀ q ∈ W, ∀ id, Xde q.1 = some id → (S0.length ≤ id ∨ id ∈ R) ∧ S[id]? = some q.2 ∧ q.2.kind = 1
 rdis : W.Pairwise fun p q => Xde p.1 = none ∨ Xde p.1 ≠ Xde q.1
theorem Hp.start (S0 : List SObj) : Hp S0 [] S0 [] [] [] := ⟨Nat.le_refl _, fun _ _ _ => rfl, by simp, .nil, by simp, .nil, by simp, .nil⟩
theorem Hp.start1 {S0 : List SObj} {id : Nat} {o : SObj} (h : S0[id]? = some o) (hk : o.kind = 0) : Hp S0 [id] S0 [(id, o)] [] [] :=
 ⟨Nat.le_refl _, fun _ _ _ => rfl, by simpa using ⟨h, hk⟩, by simp, by simp, .nil, by simp, .nil⟩
variable {S0 : List SObj} {R : List Nat} {C : List (Nat × SObj)} {A : List (PV × Nat)} {W : List (PV × SObj)}
theorem Hp.get (h : Hp S0 R S C A W) (i : Nat) {id : Nat} {o : SObj} (hi : C[i]? = some (id, o)) : S[id]? = some o :=
 (h.cel _ (List.mem_of_getElem? hi)).2.1
theorem Hp.getW (h : Hp S0 R S C A W) (i : Nat) {v : PV} {o : SObj} {id : Nat} (hi : W[i]? = some (v, o)) (hv : Xde v = some id) : S[id]? = some o :=
 (h.row _ (List.mem_of_getElem? hi) id hv).2.1
theorem App.keep {S S' : List SObj} {sz : Nat} {v : PV} (h : App S sz v) (hk : ∀ id, Xe1 v = some id → S'[id]? = S[id]?) : App S' sz v := by
 cases h with
 | nil => exact .nil
 | full xs h => exact .full xs h
 | tip xs id h => exact .tip xs id ((hk id rfl).trans h)
theorem App.lt {S : List SObj} {sz : Nat} {v : PV} (h : App S sz v) {id : Nat} (hi : Xe1 v = some id) : id < S.length ∧ ∃ n, S[id]? = some (.tip n sz) := by
 cases h with
 | nil => cases hi
 | full xs h => cases hi
 | tip xs i h => injection hi with hi; subst hi; exact ⟨(List.getElem?_eq_some_iff.1 h).1, _, h⟩
theorem Xbs {S : List SObj} {i : Nat} {o : SObj} (h : S[i]? = some o) : i < S.length := (List.getElem?_eq_some_iff.1 h).1
theorem Hp.more (h : Hp S0 R S C A W) (o : SObj) : Hp S0 R (S ++ [o]) C A W := by
 have hl := h.len
 refine ⟨by simp; omega, fun i hi hr => ?_, fun p hp => ⟨(h.cel p hp).1, ?_, (h.cel p hp).2.2⟩, h.nod, fun q hq => ⟨(h.app q hq).1.keep fun id hid => ?_, (h.app q hq).2⟩, h.dis, fun q hq id hid => ⟨(h.row q hq id hid).1, ?_, (h.row q hq id hid).2.2⟩, h.rdis⟩
 ·rw [List.getElem?_append_left (by omega)]; exact h.old i hi hr
 ·rw [List.getElem?_append_left (Xbs (h.cel p hp).2.1)]; exact (h.cel p hp).2.1
 ·rw [List.getElem?_append_left ((h.app q hq).1.lt hid).1]
 ·rw [List.getElem?_append_left (Xbs (h.row q hq id hid).2.1)]; exact (h.row q hq id hid).2.1
theorem Hp.pushO (h : Hp S0 R S C A W) (o : SObj) (hk : o.kind = 0) : Hp S0 R (S ++ [o]) ((S.length, o) :: C) A W := by
 have hn := h.more o
 refine ⟨hn.len, hn.old, fun p hp => ?_, List.pairwise_cons.2 ⟨fun p hp => ?_, h.nod⟩, hn.app, hn.dis, hn.row, hn.rdis⟩
 ·rcases List.mem_cons.1 hp with rfl | hp
  ·exact ⟨.inl h.len, by simp, hk⟩
  ·exact hn.cel p hp
 ·have := Xbs (h.cel p hp).2.1; simp; omega
theorem Hp.push (h : Hp S0 R S C A W) (cs : List PV) : Hp S0 R (S ++ [.cells cs]) ((S.length, .cells cs) :: C) A W := h.pushO _ rfl
theorem Xcr {α : Type} {l : List α} {i : Nat} {x y : α} (h : y ∈ l.set i x) : y = x ∨ ∃ j, j ≠ i ∧ l[j]? = some y := by
 obtain ⟨j, hj⟩ := List.mem_iff_getElem?.1 h
 rw [List.getElem?_set] at hj
 split at hj
 ·split at hj
  ·injection hj with hj; exact .inl hj.symm
  ·cases hj
 ·rename_i hne; exact .inr ⟨j, fun h => hne h.symm, hj⟩
theorem Xjp {α : Type} {P : α → α → Prop} {l : List α} (h : l.Pairwise P) (hs : ∀ a b, P a b → P b a) {i j : Nat} {a b : α} (hi : l[i]? = some a) (hj : l[j]? = some b) (hne : i ≠ j) : P a b := by
 obtain ⟨h1, rfl⟩ := List.getElem?_eq_some_iff.1 hi
 obtain ⟨h2, rfl⟩ := List.getElem?_eq_some_iff.1 hj
 rcases Nat.lt_or_gt_of_ne hne with hlt | hlt
 ·exact List.pairwise_iff_getElem.1 h i j h1 h2 hlt
 ·exact hs _ _ (List.pairwise_iff_getElem.1 h j i h2 h1 hlt)
theorem XoR {α : Type} {P : α → α → Prop} (hs : ∀ a b, P a b → P b a) {l : List α} (h : l.Pairwise P) {i : Nat} {x : α} (hx : ∀ j y, j ≠ i → l[j]? = some y → P x y) : (l.set i x).Pairwise P := by
 rw [List.pairwise_iff_getElem]
 intro a b ha hb hab
 have ha' : a < l.length := by simpa using ha
 have hb' : b < l.length := by simpa using hb
 rw [List.getElem_set, List.getElem_set]
 split
 ·rename_i h1
  split
  ·omega
  ·rename_i h2
   exact hx b _ (by omega) (List.getElem?_eq_getElem hb')
 ·split
  ·rename_i h1 h2
   exact hs _ _ (hx a _ (by omega) (List.getElem?_eq_getElem ha'))
  ·exact List.pairwise_iff_getElem.1 h a b ha' hb' hab
theorem Hp.setO (h : Hp S0 R S C A W) (i : Nat) {id : Nat} {o : SObj} (hi : C[i]? = some (id, o)) (o' : SObj) (hk : o'.kind = 0) : Hp S0 R (S.set id o') (C.set i (id, o')) A W := by
 have hg := h.get i hi
 have hlt := Xbs hg
 have hm := h.cel _ (List.mem_of_getElem? hi)
 have hm0 : o.kind = 0 := hm.2.2
 refine ⟨by simpa using h.len, fun j hj hr => ?_, ?_, ?_, fun q hq => ⟨(h.app q hq).1.keep fun k hk => ?_, (h.app q hq).2⟩, h.dis, fun q hq k hk => ⟨(h.row q hq k hk).1, ?_, (h.row q hq k hk).2.2⟩, h.rdis⟩
 ·rw [List.getElem?_set]
  split
  ·rename_i he; subst he
   rcases hm.1 with h1 | h1
   ·simp only at h1; omega
   ·exact absurd h1 hr
  ·exact h.old j hj hr
 ·intro p hp
  rcases Xcr hp with rfl | ⟨j, hne, hj⟩
  ·exact ⟨hm.1, by simp [hlt], hk⟩
  ·have hp' := h.cel p (List.mem_of_getElem? hj)
   refine ⟨hp'.1, ?_, hp'.2.2⟩
   have : p.1 ≠ id := Xjp (P := fun p q : Nat × SObj => p.1 ≠ q.1) h.nod (fun _ _ h => Ne.symm h) hj hi hne
   rw [List.getElem?_set, if_neg (Ne.symm this)]
   exact hp'.2.1
 ·exact XoR (fun _ _ h => Ne.symm h) h.nod fun j y hne hj => (show id ≠ y.1 from Ne.symm (Xjp (P := fun p q : Nat × SObj => p.1 ≠ q.1) h.nod (fun _ _ h => Ne.symm h) hj hi hne))
 ·obtain ⟨_, n, hn⟩ := (h.app q hq).1.lt hk
  have : id ≠ k := by rintro rfl; rw [hn] at hg; injection hg with hg; subst hg; cases hm0
  rw [List.getElem?_set, if_neg this]
 ·obtain ⟨_, hn, hk1⟩ := h.row q hq k hk
  have : id ≠ k := by rintro rfl; rw [hn] at hg; injection hg with hg; subst hg; omega
  rw [List.getElem?_set, if_neg this]; exact hn
theorem Hp.set (h : Hp S0 R S C A W) (i : Nat) {id : Nat} {cs : List PV} (hi : C[i]? = some (id, .cells cs)) (cs' : List PV) : Hp S0 R (S.set id (.cells cs')) (C.set i (id, .cells cs')) A W := h.setO i hi _ rfl
theorem Hp.sub (h : Hp S0 R S C A W) {C' : List (Nat × SObj)} {A' : List (PV × Nat)} {W' : List (PV × SObj)} (hC : C'.Sublist C) (hA : A'.Sublist A) (hW : W'.Sublist W) : Hp S0 R S C' A' W' :=
 ⟨h.len, h.old, fun p hp => h.cel p (hC.subset hp), h.nod.sublist hC, fun q hq => h.app q (hA.subset hq), h.dis.sublist hA, fun q hq => h.row q (hW.subset hq), h.rdis.sublist hW⟩
theorem Hp.addNil (h : Hp S0 R S C A W) (sz : Nat) : Hp S0 R S C ((.nils, sz) :: A) W :=
 by
  refine { h with app := fun q hq => ?_, dis := List.pairwise_cons.2 ⟨fun _ _ => .inl rfl, h.dis⟩ }
  rcases List.mem_cons.1 hq with rfl | hq
  ·exact ⟨.nil, fun id hi => by cases hi⟩
  ·exact h.app q hq
theorem Hp.addFull (h : Hp S0 R S C A W) (xs : List PV) (sz : Nat) (hs : Xbg sz xs = true) : Hp S0 R S C ((.lst xs .full, sz) :: A) W :=
 by
  refine { h with app := fun q hq => ?_, dis := List.pairwise_cons.2 ⟨fun _ _ => .inl rfl, h.dis⟩ }
  rcases List.mem_cons.1 hq with rfl | hq
  ·exact ⟨.full xs hs, fun id hi => by cases hi⟩
  ·exact h.app q hq
theorem Hp.addTip (h : Hp S0 R S C A W) (xs : List PV) (sz : Nat) : Hp S0 R (S ++ [.tip xs.length sz]) C ((.lst xs (.tip S.length), sz) :: A) W := by
 have hn := h.more (.tip xs.length sz)
 have hl := h.len
 refine { hn with app := fun q hq => ?_, dis := List.pairwise_cons.2 ⟨fun q hq => .inr fun he => ?_, h.dis⟩ }
 ·rcases List.mem_cons.1 hq with rfl | hq
  ·exact ⟨.tip xs _ (by simp), fun id hi => by injection hi with hi; omega⟩
  ·exact hn.app q hq
 ·have := ((h.app q hq).1.lt (id := S.length) he.symm).1
  omega
theorem Xek {q : PV × Nat} {j : Nat} (hj : A[j]? = some q) : q ∈ A := List.mem_of_getElem? hj
theorem Xl3 (h : Hp S0 R S C A W) {j : Nat} {v : PV} {sz id : Nat} (hj : A[j]? = some (v, sz)) (hv : Xe1 v = some id) : ∀ k q, k ≠ j → A[k]? = some q → Xe1 q.1 ≠ some id := by
 intro k q hne hk he
 have := Xjp (P := fun p q : PV × Nat => Xe1 p.1 = none ∨ Xe1 q.1 = none ∨ Xe1 p.1 ≠ Xe1 q.1) (l := A)
  (h.dis.imp fun {a b} hab => hab.elim .inl fun h => .inr (.inr h)) (fun a b hab => by
   rcases hab with h | h | h
   ·exact .inr (.inl h)
   ·exact .inl h
   ·exact .inr (.inr (Ne.symm h))) hk hj hne
 rcases this with h | h | h
 ·rw [h] at he; cases he
 ·simp only at h; rw [hv] at h; cases h
 ·simp only [hv] at h; exact h he
theorem XgO {α : Type} {f : α → Option Nat} {l : List α} (h : l.Pairwise fun p q => f p = none ∨ f p ≠ f q) {i : Nat} {x : α} (hx : ∀ n, f x = some n → ∀ k q, k ≠ i → l[k]? = some q → f q ≠ some n) : (l.set i x).Pairwise fun p q => f p = none ∨ f p ≠ f q := by
 rw [List.pairwise_iff_getElem]
 intro a b ha hb' hab
 have ha2 : a < l.length := by simpa using ha
 have hb2 : b < l.length := by simpa using hb'
 rw [List.getElem_set, List.getElem_set]
 split
 ·rename_i h1
  split
  ·omega
  ·cases hn : f x with
   | none => exact .inl rfl
   | some n => exact .inr fun he => hx n hn b _ (by omega) (List.getElem?_eq_getElem hb2) he.symm
 ·split
  ·rename_i h1 h2
   cases hn : f x with
   | none =>
    cases hq : f l[a] with
    | none => exact .inl rfl
    | some n => exact .inr fun he => by cases he
   | some n => exact .inr fun he => hx n hn a _ (by omega) (List.getElem?_eq_getElem ha2) he
  ·exact List.pairwise_iff_getElem.1 h a b ha2 hb2 hab
theorem Hp.grow (h : Hp S0 R S C A W) (j : Nat) {xs : List PV} {id sz : Nat} (hj : A[j]? = some (.lst xs (.tip id), sz)) (ys : List PV) :
  Hp S0 R (S.set id (.tip (xs.length + ys.length) sz)) C (A.set j (.lst (xs ++ ys) (.tip id), sz)) W := by
 have hm := h.app _ (Xek hj)
 obtain ⟨hlt, n, hn⟩ := hm.1.lt (id := id) rfl
 have hb := hm.2 id rfl
 have hdis := Xl3 h hj (id := id) rfl
 refine ⟨by simpa using h.len, fun i hi hr => ?_, fun p hp => ⟨(h.cel p hp).1, ?_, (h.cel p hp).2.2⟩, h.nod, ?_, XgO h.dis (x := (PV.lst (xs ++ ys) (.tip id), sz)) fun n hn k q hne hk => by injection hn with hn; subst hn; exact hdis k q hne hk,
  fun q hq k hk => ⟨(h.row q hq k hk).1, ?_, (h.row q hq k hk).2.2⟩, h.rdis⟩
 ·rw [List.getElem?_set, if_neg (by omega)]; exact h.old i hi hr
 ·obtain ⟨_, hc, hk⟩ := h.cel p hp
  have : id ≠ p.1 := by rintro rfl; rw [hc] at hn; injection hn with hn; rw [hn] at hk; cases hk
  rw [List.getElem?_set, if_neg this]; exact hc
 ·intro q hq
  rcases Xcr hq with rfl | ⟨k, hne, hk⟩
  ·exact ⟨.tip _ _ (by simp [hlt]), fun i hi => by injection hi with hi; omega⟩
  ·have := h.app q (Xek hk)
   refine ⟨this.1.keep fun i hi => ?_, this.2⟩
   have : id ≠ i := by rintro rfl; exact hdis k q hne hk hi
   rw [List.getElem?_set, if_neg this]
 ·obtain ⟨_, hc, hkk⟩ := h.row q hq k hk
  have : id ≠ k := by rintro rfl; rw [hc] at hn; injection hn with hn; rw [hn] at hkk; cases hkk
  rw [List.getElem?_set, if_neg this]; exact hc
theorem Hp.repl (h : Hp S0 R S C A W) (j : Nat) {sz : Nat} (xs : List PV) :
  Hp S0 R (S ++ [.tip xs.length sz]) C (A.set j (.lst xs (.tip S.length), sz)) W := by
 have hn := h.addTip xs sz
 have lt : ∀ q ∈ A, Xe1 q.1 ≠ some S.length := fun q hq he => by have := ((h.app q hq).1.lt he).1; omega
 refine { hn with app := fun q hq => ?_, dis := XgO h.dis (x := (PV.lst xs (.tip S.length), sz)) fun n hn k q _ hk => by injection hn with hn; subst hn; exact lt q (Xek hk) }
 rcases Xcr hq with rfl | ⟨k, hne, hk⟩
 ·exact hn.app _ List.mem_cons_self
 ·exact hn.app q (List.mem_cons_of_mem _ (Xek hk))
/-! Rows that may be written to -/
theorem Hp.addW (h : Hp S0 R S C A W) (n : Nat) (o : SObj) (hk : o.kind = 1) : Hp S0 R (S ++ [o]) C A ((.rsl S.length n, o) :: W) := by
 have hn := h.more o
 refine { hn with row := fun q hq id hid => ?_, rdis := List.pairwise_cons.2 ⟨fun q hq => .inr fun he => ?_, h.rdis⟩ }
 ·rcases List.mem_cons.1 hq with rfl | hq
  ·injection hid with hid; subst hid
   exact ⟨.inl h.len, by simp, hk⟩
  ·exact hn.row q hq id hid
 ·have := Xbs (h.row q hq S.length he.symm).2.1
  omega
theorem Xjq (h : Hp S0 R S C A W) {j : Nat} {v : PV} {o : SObj} {id : Nat} (hj : W[j]? = some (v, o)) (hv : Xde v = some id) : ∀ k q, k ≠ j → W[k]? = some q → Xde q.1 ≠ some id := by
 intro k q hne hk he
 have := Xjp (P := fun p q : PV × SObj => Xde p.1 = none ∨ Xde q.1 = none ∨ Xde p.1 ≠ Xde q.1) (l := W)
  (h.rdis.imp fun {a b} hab => hab.elim .inl fun h => .inr (.inr h)) (fun a b hab => by
   rcases hab with h | h | h
   ·exact .inr (.inl h)
   ·exact .inl h
   ·exact .inr (.inr (Ne.symm h))) hk hj hne
 rcases this with h | h | h
 ·rw [h] at he; cases he
 ·simp only at h; rw [hv] at h; cases h
 ·simp only [hv] at h; exact h he
theorem Hp.setW (h : Hp S0 R S C A W) (j : Nat) {v : PV} {o : SObj} {id : Nat} (hj : W[j]? = some (v, o)) (hv : Xde v = some id) (o' : SObj) (hk : o'.kind = 1) : Hp S0 R (S.set id o') C A (W.set j (v, o')) := by
 obtain ⟨hm, hg, hm1⟩ := h.row _ (List.mem_of_getElem? hj) id hv
 have hlt := Xbs hg
 have hm1 : o.kind = 1 := hm1
 have hdis := Xjq h hj hv
 refine ⟨by simpa using h.len, fun i hi hr => ?_, fun p hp => ⟨(h.cel p hp).1, ?_, (h.cel p hp).2.2⟩, h.nod, fun q hq => ⟨(h.app q hq).1.keep fun k hk => ?_, (h.app q hq).2⟩, h.dis, fun q hq k hk2 => ?_,
  XgO h.rdis (x := (v, o')) fun n hn k q hne hk => by rw [hv] at hn; injection hn with hn; subst hn; exact hdis k q hne hk⟩
 ·rw [List.getElem?_set]
  split
  ·rename_i he; subst he
   rcases hm with h1 | h1
   ·omega
   ·exact absurd h1 hr
  ·exact h.old i hi hr
 ·obtain ⟨_, hc, hck⟩ := h.cel p hp
  have : id ≠ p.1 := by rintro rfl; rw [hc] at hg; injection hg with hg; rw [hg] at hck; omega
  rw [List.getElem?_set, if_neg this]; exact hc
 ·obtain ⟨_, n, hn⟩ := (h.app q hq).1.lt hk
  have : id ≠ k := by rintro rfl; rw [hn] at hg; injection hg with hg; subst hg; cases hm1
  rw [List.getElem?_set, if_neg this]
 ·rcases Xcr hq with rfl | ⟨i, hne, hi⟩
  ·simp only at hk2
   rw [hv] at hk2; injection hk2 with hk2; subst hk2
   exact ⟨hm, by simp [hlt], hk⟩
  ·obtain ⟨h1, h2, h3⟩ := h.row q (List.mem_of_getElem? hi) k hk2
   refine ⟨h1, ?_, h3⟩
   have : id ≠ k := by rintro rfl; exact hdis i q hne hi hk2
   rw [List.getElem?_set, if_neg this]; exact h2
theorem Hp.growW (h : Hp S0 R S C A W) (j : Nat) {v : PV} {o : SObj} {id : Nat} (hj : W[j]? = some (v, o)) (hv : Xde v = some id) (n : Nat) (o' : SObj) (hk : o'.kind = 1) : Hp S0 R (S.set id .dead ++ [o']) C A (W.set j (.rsl S.length n, o')) := by
 obtain ⟨hm, hg, hm1⟩ := h.row _ (List.mem_of_getElem? hj) id hv
 have hlt := Xbs hg
 have hm1 : o.kind = 1 := hm1
 have hdis := Xjq h hj hv
 have hlen := h.len
 have old : ∀ k, k < S.length → k ≠ id → (S.set id .dead ++ [o'])[k]? = S[k]? := fun k hk hne => by
  rw [List.getElem?_append_left (by simpa using hk), List.getElem?_set, if_neg (Ne.symm hne)]
 refine ⟨by simp; omega, fun i hi hr => ?_, fun p hp => ⟨(h.cel p hp).1, ?_, (h.cel p hp).2.2⟩, h.nod, fun q hq => ⟨(h.app q hq).1.keep fun k hk => ?_, (h.app q hq).2⟩, h.dis, fun q hq k hk2 => ?_,
  XgO h.rdis (x := (PV.rsl S.length n, o')) fun n hn k q hne hk he => by injection hn with hn; subst hn; have := Xbs (h.row q (List.mem_of_getElem? hk) _ he).2.1; omega⟩
 ·have hne : i ≠ id := by
   rintro rfl
   rcases hm with h1 | h1
   ·omega
   ·exact hr h1
  rw [old i (by omega) hne]
  exact h.old i hi hr
 ·obtain ⟨_, hc, hck⟩ := h.cel p hp
  rw [old _ (Xbs hc) (by rintro rfl; rw [hc] at hg; injection hg with hg; rw [hg] at hck; omega)]; exact hc
 ·obtain ⟨hl, n, hn⟩ := (h.app q hq).1.lt hk
  rw [old _ hl (by rintro rfl; rw [hn] at hg; injection hg with hg; subst hg; cases hm1)]
 ·rcases Xcr hq with rfl | ⟨i, hne, hi⟩
  ·injection hk2 with hk2; subst hk2
   exact ⟨.inl hlen, by rw [List.getElem?_append_right (by simp)]; simp, hk⟩
  ·obtain ⟨h1, h2, h3⟩ := h.row q (List.mem_of_getElem? hi) k hk2
   refine ⟨h1, ?_, h3⟩
   rw [old _ (Xbs h2) (by rintro rfl; exact hdis i q hne hi hk2)]; exact h2
def Xc3 (ei : TyI) (v : PV) (ys : List PV) (S : List SObj) : Option (PV × List SObj) := match v with
 | .nils => if ys.length * ei.bytes ≤ 2 ^ 47 then some (.lst ys (.tip S.length), S ++ [.tip ys.length ei.size]) else none
 | .lst xs .full => if (xs.length + ys.length) * ei.bytes ≤ 2 ^ 47 ∧ Xbg ei.size xs then some (.lst (xs ++ ys) (.tip S.length), S ++ [.tip (xs.length + ys.length) ei.size]) else none
 | .rsl id len =>
  match S[id]? with
  | some (.row xs sz false) => if len = xs.length ∧ sz = ei.size ∧ (xs.length + ys.length) * ei.bytes ≤ 2 ^ 47 then some (.rsl S.length (xs.length + ys.length), S.set id .dead ++ [.row (xs ++ ys) sz false]) else none
  | _ => none
 | .lst xs (.tip id) =>
  match S[id]? with
  | some (.tip hw sz) => if hw = xs.length ∧ sz = ei.size ∧ (xs.length + ys.length) * ei.bytes ≤ 2 ^ 47 then some (.lst (xs ++ ys) (.tip id), S.set id (.tip (xs.length + ys.length) sz)) else none
  | _ => none
 | _ => none
theorem Xb0 {α : Type} {f : α → PV} {x y z : Sl α} {v w : PV} {a b : Operand} {t u e : TypeId} {ei : TyI} (H : Hp S0 R S C A W) (j : Nat) (hj : A[j]? = some (v, ei.size))
  (ho : opd σ a = v) (hx : Xa8 f x v) (hb : opd σ b = w) (hw : Xa8 f y w)
  (ht : (env.ctx.ty t).map (·.und) = some (.slice e)) (hu : (env.ctx.ty u).map (·.und) = some (.slice e)) (he : env.ctx.ty e = some ei)
  (hok : (decide (ei.size ≠ 0) && decide (ei.bytes ≠ 0) && ei.zero.storable && decide (ei.zero.cells.length = ei.size)) = true)
  (hc : ∀ a, (f a).cells.length = ei.size) (hz : Sl.app? ei.bytes x y.l = some z) :
  ∃ v' S', stp env fr σ S (.call ⟨.builtin .append, #[a, b], #[t, u]⟩) = some (v', S', false) ∧ Xa8 f z v' ∧ Hp S0 R S' C (A.set j (v', ei.size)) W := by
 simp only [Bool.and_eq_true, decide_eq_true_eq] at hok
 obtain ⟨⟨⟨k1, k2⟩, k3⟩, k4⟩ := hok
 cases hti : env.ctx.ty t with
 | none => rw [hti] at ht; cases ht
 | some ti =>
 rw [hti] at ht
 have ht' : ti.und = .slice e := by simpa using ht
 cases hui : env.ctx.ty u with
 | none => rw [hui] at hu; cases hu
 | some ui =>
 rw [hui] at hu
 have hu' : ui.und = .slice e := by simpa using hu
 unfold Sl.app? at hz
 split at hz
 case isFalse => cases hz
 rename_i hfit
 injection hz with hz
 have hlist : Xd1 w = some (y.l.map f) := by
  cases y with
  | none => cases hw; rfl
  | some l => obtain ⟨tag, rfl⟩ := hw; rfl
 have happ := (H.app _ (Xek hj)).1
 cases hemp : y.l.isEmpty with
 | true =>
  rw [hemp] at hz
  simp only [if_true] at hz
  subst hz
  have hnil : y.l = [] := by simpa using hemp
  have hsl : Xf7 v = true := by cases happ <;> rfl
  refine ⟨v, S, ?_, hx, ?_⟩
  ·simp only [stp, XaL, Xct, List.map_cons, List.map_nil, ho, hb, Xbi, hlist]
   simp [hti, hui, ht', hu', he, hnil, hsl]
  ·have : A.set j (v, ei.size) = A := by
    apply List.ext_getElem?
    intro i
    rw [List.getElem?_set]
    split
    ·rename_i hi; subst hi; rw [hj]; split
     ·rfl
     ·have := (List.getElem?_eq_some_iff.1 hj).1; omega
    ·rfl
   rw [this]; exact H
 | false =>
  rw [hemp] at hz
  simp only [Bool.false_eq_true, if_false] at hz
  subst hz
  have hne : (y.l.map f).isEmpty = false := by simpa using hemp
  have hsz := Xcv hc y.l
  have cond : ¬ (Xbg ei.size (y.l.map f) = false ∨ ei.size = 0 ∨ ei.bytes = 0 ∨ ei.zero.storable = false ∨ ei.zero.cells.length ≠ ei.size) := by
   rw [hsz]; simp [k1, k2, k3, k4]
  have red : stp env fr σ S (.call ⟨.builtin .append, #[a, b], #[t, u]⟩) = (Xc3 ei v (y.l.map f) S).map fun (v, S') => (v, S', false) := by
   simp only [stp, XaL, Xct, List.map_cons, List.map_nil, ho, hb, Xbi]
   simp only [List.getElem?_toArray, List.getElem?_cons_zero, List.getElem?_cons_succ, hti, hui, hlist, ht', hu', he, hne, Bool.false_eq_true, if_false]
   rw [if_neg cond]
   rfl
  rw [red]
  cases x with
  | none =>
   cases hx
   refine ⟨.lst (y.l.map f) (.tip S.length), S ++ [.tip (y.l.map f).length ei.size], ?_, ⟨.tip S.length, by simp [Sl.l]⟩, ?_⟩
   ·have hfit : y.l.length * ei.bytes ≤ 2 ^ 47 := by have h := hfit; rw [show (Sl.l (none : Sl α)).length = 0 from rfl, Nat.zero_add] at h; exact h
    unfold Xc3
    simp only
    rw [if_pos (by simpa using hfit)]
    rfl
   ·exact H.repl j _
  | some l =>
   obtain ⟨tag, rfl⟩ := hx
   have hfit : (l.length + y.l.length) * ei.bytes ≤ 2 ^ 47 := hfit
   cases tag with
   | none => cases happ
   | full =>
    cases happ with
    | full _ hs =>
    refine ⟨.lst (l.map f ++ y.l.map f) (.tip S.length), S ++ [.tip ((l.map f).length + (y.l.map f).length) ei.size], ?_, ⟨.tip S.length, by simp [Sl.l]⟩, ?_⟩
    ·unfold Xc3
     simp only [hs]
     rw [if_pos ⟨by simpa using hfit, trivial⟩]
     rfl
    ·have := H.repl j (sz := ei.size) (l.map f ++ y.l.map f)
     simpa using this
   | tip id =>
    cases happ with
    | tip _ _ hs =>
    refine ⟨.lst (l.map f ++ y.l.map f) (.tip id), S.set id (.tip ((l.map f).length + (y.l.map f).length) ei.size), ?_, ⟨.tip id, by simp [Sl.l]⟩, ?_⟩
    ·unfold Xc3
     simp only [hs]
     rw [if_pos ⟨trivial, trivial, by simpa using hfit⟩]
     rfl
    ·exact H.grow j hj _
end Go.Pam
namespace Go.Pam
theorem Xc4 {α : Type} {c : Bool} {a b : Option α} {r : α} (h : (if c = true then a else b) = some r) (hc : c = true) : a = some r := by subst hc; exact h
theorem Xc5 {α : Type} {c : Bool} {a b : Option α} {r : α} (h : (if c = true then a else b) = some r) (hc : c = false) : b = some r := by subst hc; exact h
end Go.Pam
namespace Go.Pam
variable {env : Env} {fr : Fr} {σ : Nat → PV} {S : List SObj} {S0 : List SObj} {R : List Nat} {C : List (Nat × SObj)} {A : List (PV × Nat)} {W : List (PV × SObj)}
theorem Xjr {t : TypeId} {a : Operand} {id off : Nat} {cs : List PV} {v : PV} (ho : opd σ a = .ptr id off) (hg : S[id]? = some (.cells cs)) (hp : Xbz env.ctx t cs off = some v) :
  stp env fr σ S (.load t a) = some (v, S, false) := by
 simp only [stp, XaL, ho, Xb2, hg, hp, Option.map_some]
theorem Xif {t : TypeId} {a x : Operand} {id off sz : Nat} {cs cs' xc : List PV} {v : PV} {e : Bool} (ho : opd σ a = .ptr id off) (hx : opd σ x = v) (hg : S[id]? = some (.cells cs)) (ht : (env.ctx.ty t).map (·.size) = some sz)
  (hs : v.storable = true) (hv : v.cells = xc) (hl : xc.length = sz) (hb : off + sz ≤ cs.length) (hc : cs.take off ++ xc ++ cs.drop (off + sz) = cs') (he : (decide (id < fr.base) && !v.clean) = e) :
  stp env fr σ S (.store t a x) = some (.tup [], S.set id (.cells cs'), e) := by
 cases hti : env.ctx.ty t with
 | none => rw [hti] at ht; cases ht
 | some ti =>
  rw [hti] at ht
  have hz : ti.size = sz := by simpa using ht
  subst hc hz hv
  have hn : ¬ (v.storable = false ∨ v.cells.length ≠ ti.size ∨ off + ti.size > cs.length) := by
   rintro (h | h | h)
   ·rw [hs] at h; cases h
   ·exact h hl
   ·omega
  simp only [stp, XaL, ho, hx, Xed, hg, hti, if_neg hn, he, Option.map_some]
theorem XiO {t : TypeId} {x : Operand} {v : PV} {cs : List PV} (hx : opd σ x = v) (hs : v.storable = true) (hv : v.cells = cs) :
  stp env fr σ S (.box t x) = some (.ptr S.length 0, S ++ [.cells cs], false) := by
 subst hv
 simp only [stp, XaL, hx, hs, if_true]
theorem XfR {t : TypeId} {ti : TyI} {cs : List PV} (ht : env.ctx.ty t = some ti) (hs : ti.zero.storable = true) (hv : ti.zero.cells = cs) :
  stp env fr σ S (.alloc t) = some (.ptr S.length 0, S ++ [.cells cs], false) := by
 subst hv
 simp only [stp, XaL, ht, hs, if_true]
theorem Xav {place : Nat → Option (Nat × Nat)} {cells cells' xc : List PV} {i off size : Nat} {v : PV} {rest : List (Nat × PV)} {r : List PV} (hp : place i = some (off, size)) (hs : v.storable = true) (hv : v.cells = xc) (hl : xc.length = size)
  (hb : off + size ≤ cells.length) (hc : cells.take off ++ xc ++ cells.drop (off + size) = cells') (h : Xda place cells' rest = some r) : Xda place cells ((i, v) :: rest) = some r := by
 subst hv hc
 unfold Xda
 simp only [hp]
 rw [if_neg]
 ·exact h
 ·rintro (h | h | h)
  ·rw [hs] at h; cases h
  ·exact h hl
  ·omega
theorem XaH {t : TypeId} {ps : Array (Nat × Operand)} {ti : TyI} {fs : Array Field} {pl : List (Nat × Nat)} {parts : List (Nat × PV)} {cs : List PV} (ht : env.ctx.ty t = some ti) (hu : ti.und = .struct fs) (hz : ti.zero.storable = true)
  (hpl : XdL env.ctx fs.toList = some pl) (hps : (ps.toList.map fun p => (p.1, opd σ p.2)) = parts) (hf : Xda (fun i => pl[i]?) ti.zero.cells parts = some cs) :
  stp env fr σ S (.build t ps) = some (.agg cs, S, false) := by
 have hz' : ¬ ti.zero.storable = false := by rw [hz]; simp
 simp only [stp, XaL, hps, XeF, ht, hu, if_neg hz', hpl, hf, Option.map_some]
theorem XfS {sz : Nat} : ∀ (parts : List (Nat × PV)) (ys : List PV) (done z : List PV), parts.map (·.1) = (List.range' done.length ys.length) → parts.map (·.2.strip) = ys →
  (∀ p ∈ parts, p.2.storable = true ∧ p.2.cells.length = sz) → z.length = ys.length → Xc8 sz (done ++ z) parts = some (done ++ ys)
 | [], ys, done, z, h1, h2, h3, h4 => by
  simp only [List.map_nil] at h2; subst h2
  have : z = [] := by simpa using h4
  subst this; rfl
 | (i, v) :: parts, ys, done, z, h1, h2, h3, h4 => by
  cases ys with
  | nil => simp at h2
  | cons y ys =>
   cases z with
   | nil => simp at h4
   | cons z0 z =>
    simp only [List.length_cons, List.range'_succ, List.map_cons, List.cons.injEq] at h1 h2
    obtain ⟨rfl, h1⟩ := h1
    obtain ⟨rfl, h2⟩ := h2
    have hv := h3 _ List.mem_cons_self
    unfold Xc8
    rw [if_pos ⟨hv.1, hv.2, by simp⟩]
    have : (done ++ z0 :: z).set done.length v.strip = (done ++ [v.strip]) ++ z := by simp
    rw [this]
    have := XfS parts ys (done ++ [v.strip]) z (by simpa using h1) h2 (fun p hp => h3 p (List.mem_cons_of_mem _ hp)) (by simpa using h4)
    rw [this]; simp
theorem Xaj {α : Type} {f : α → PV} {t e : TypeId} {n : Nat} {ps : Array (Nat × Operand)} {ei : TyI} {ys : List α} {parts : List (Nat × PV)} (ht : (env.ctx.ty t).map (·.und) = some (.slice e)) (he : env.ctx.ty e = some ei)
  (hok : (decide (n * ei.size ≤ 2 ^ 24) && decide (ei.size ≠ 0) && decide (ei.zero.cells.length = ei.size) && ei.zero.storable) = true)
  (hps : (ps.toList.map fun p => (p.1, opd σ p.2)) = parts) (h1 : parts.map (·.1) = List.range' 0 n) (h2 : parts.map (·.2.strip) = ys.map f) (h3 : ∀ p ∈ parts, p.2.storable = true ∧ p.2.cells.length = ei.size) (hn : ys.length = n) :
  stp env fr σ S (.buildSlice t n ps) = some (.lst (ys.map f) .full, S, false) := by
 simp only [Bool.and_eq_true, decide_eq_true_eq] at hok
 obtain ⟨⟨⟨k1, k2⟩, k3⟩, k4⟩ := hok
 cases hti : env.ctx.ty t with
 | none => rw [hti] at ht; cases ht
 | some ti =>
  rw [hti] at ht
  have hu : ti.und = .slice e := by simpa using ht
  have := XfS (sz := ei.size) parts (ys.map f) [] (List.replicate n ei.zero) (by simpa [hn] using h1) h2 h3 (by simp [hn])
  simp only [List.nil_append] at this
  simp only [stp, XaL, hps, Xbk, hti, hu, he]
  rw [if_pos ⟨k1, k2, k3, k4⟩, this]
  rfl
theorem Xe2 {s : Str} {a : Operand} {st dt e : TypeId} (ho : opd σ a = .str s) (hs : (env.ctx.ty st).map (·.und) = some .string) (hd : (env.ctx.ty dt).map (·.und) = some (.slice e)) (he : (env.ctx.ty e).map (·.und) = some (.int .u8)) (H : Hp S0 R S C A W) :
  ∃ v' S', stp env fr σ S (.convert st dt a) = some (v', S', false) ∧ Xa8 (eI .u8) (Str.bytes s) v' ∧ Hp S0 R S' C ((v', 1) :: A) W := by
 cases h1 : env.ctx.ty st with
 | none => rw [h1] at hs; cases hs
 | some si =>
 rw [h1] at hs
 have hs' : si.und = .string := by simpa using hs
 cases h2 : env.ctx.ty dt with
 | none => rw [h2] at hd; cases hd
 | some di =>
 rw [h2] at hd
 have hd' : di.und = .slice e := by simpa using hd
 cases h3 : env.ctx.ty e with
 | none => rw [h3] at he; cases he
 | some ei =>
 rw [h3] at he
 have he' : ei.und = .int .u8 := by simpa using he
 have := H.addTip (s.map fun b => PV.int .u8 b.toNat) 1
 refine ⟨.lst (s.map fun b => .int .u8 b.toNat) (.tip S.length), S ++ [.tip s.length 1], ?_, ⟨.tip S.length, ?_⟩, by simpa using this⟩
 ·simp only [stp, XaL, ho, Xbx, h1, h2, hs', hd', h3, he', Option.map_some]
 ·simp [Function.comp_def]
theorem XfT : ∀ (l : List Int), Xbx.bytesOfPV (l.map (eI .u8)) = some (l.map fun n => UInt8.ofNat n.toNat)
 | [] => rfl
 | n :: l => by simp [Xbx.bytesOfPV, XfT l]
theorem Xb9 {x : Sl Int} {v : PV} {a : Operand} {st dt e : TypeId} (ho : opd σ a = v) (hx : Xa8 (eI .u8) x v) (hs : (env.ctx.ty st).map (·.und) = some (.slice e)) (hd : (env.ctx.ty dt).map (·.und) = some .string) (he : (env.ctx.ty e).map (·.und) = some (.int .u8)) :
  stp env fr σ S (.convert st dt a) = some (.str (Str.of x), S, false) := by
 cases h1 : env.ctx.ty st with
 | none => rw [h1] at hs; cases hs
 | some si =>
 rw [h1] at hs
 have hs' : si.und = .slice e := by simpa using hs
 cases h2 : env.ctx.ty dt with
 | none => rw [h2] at hd; cases hd
 | some di =>
 rw [h2] at hd
 have hd' : di.und = .string := by simpa using hd
 cases h3 : env.ctx.ty e with
 | none => rw [h3] at he; cases he
 | some ei =>
 rw [h3] at he
 have he' : ei.und = .int .u8 := by simpa using he
 cases x with
 | none => cases hx; simp only [stp, XaL, ho, Xbx, h1, h2, hs', hd', h3, he', Option.map_some]; rfl
 | some l => obtain ⟨tag, rfl⟩ := hx; simp only [stp, XaL, ho, Xbx, h1, h2, hs', hd', h3, he', Option.map_some, XfT]; rfl
def plain : PV → PV → Bool
 | .int _ _, .int _ _ => false
 | .str _, .str _ => false
 | _, _ => true
theorem Xcc {x y z : Str} {t u : TypeId} {a b : Operand} (ha : opd σ a = .str x) (hb : opd σ b = .str y) (hz : Str.app? x y = some z) : stp env fr σ S (.binOp .add t a b u) = some (.str z, S, false) := by
 unfold Str.app? at hz
 simp only [stp, XaL, ha, hb, XgZ, Xls]
 split at hz
 ·cases hz
 ·rename_i h; injection hz with hz; subst hz; simp only [h, if_false, Option.map_some]
theorem XmG {t u : TypeId} {k : IntKind} {a b : Operand} {x y z : Int} (ha : opd σ a = .int k x) (hb : opd σ b = .int k y) (hz : XtZ k x y = some z) : stp env fr σ S (.binOp .quo t a b u) = some (.int k z, S, false) := by
 unfold XtZ at hz
 simp only [stp, XaL, ha, hb, XgZ, Xkq]
 split at hz
 ·cases hz
 ·rename_i h; injection hz with hz; subst hz; simp [h]
theorem XiP {t u : TypeId} {k : IntKind} {a b : Operand} {x y z : Int} (ha : opd σ a = .int k x) (hb : opd σ b = .int k y) (hz : Xl2 x y = some z) : stp env fr σ S (.binOp .rem t a b u) = some (.int k z, S, false) := by
 unfold Xl2 at hz
 simp only [stp, XaL, ha, hb, XgZ, Xkq]
 split at hz
 ·cases hz
 ·rename_i h; injection hz with hz; subst hz; simp [h]
theorem Xk5 {t u : TypeId} {k k' : IntKind} {a b : Operand} {x y z : Int} (ha : opd σ a = .int k x) (hb : opd σ b = .int k' y) (hz : Xlm k x y = some z) : stp env fr σ S (.binOp .shl t a b u) = some (.int k z, S, false) := by
 unfold Xlm at hz
 simp only [stp, XaL, ha, hb, XgZ, XeD]
 split at hz
 ·cases hz
 ·rename_i h; injection hz with hz; subst hz; simp [h]
theorem XfU {t u : TypeId} {k k' : IntKind} {a b : Operand} {x y z : Int} (ha : opd σ a = .int k x) (hb : opd σ b = .int k' y) (hz : Xln k x y = some z) : stp env fr σ S (.binOp .shr t a b u) = some (.int k z, S, false) := by
 unfold Xln at hz
 simp only [stp, XaL, ha, hb, XgZ, XeD]
 split at hz
 ·cases hz
 ·rename_i h; injection hz with hz; subst hz; simp [h]
theorem XcA {f : FuncId} {op : Operand} {args : Array Operand} {ts : Array TypeId} {cap vs : List PV} {v : PV} {S' : List SObj} {e : Bool} (hf : opd σ op = .fn (.func f) [] cap) (ha : args.toList.map (opd σ) ++ cap = vs) (h : evw env f vs S = some (v, S', e)) :
  stp env fr σ S (.call ⟨.value op, args, ts⟩) = some (v, S', e) := by
 subst ha
 simp only [stp, XaL, Xct, hf, h]
end Go.Pam
namespace Go.Pam
variable {env : Env} {fr : Fr} {σ : Nat → PV} {S : List SObj} {S0 : List SObj} {R : List Nat} {C : List (Nat × SObj)} {A : List (PV × Nat)} {W : List (PV × SObj)}
theorem WO.go0 {op : Op} {d : Option Nat} {t : Nat} {want b : Bool} {wr : Bool} {rest : List POp} {e : Bool} {K : KS} (hb : σ t = .bool b) (hw : (b == want) = true)
  (h : WO env fr (⟨d, op, none, wr⟩ :: rest) σ S e K) : WO env fr (⟨d, op, some (t, want), wr⟩ :: rest) σ S e K := by
 obtain ⟨σ1, S1, e1, h1, h2⟩ := h
 refine ⟨σ1, S1, e1, ?_, h2⟩
 unfold XbM at h1 ⊢
 simp only [XaE, hb, hw] at h1 ⊢
 exact h1
theorem WH.go0 {op : Op} {d : Option Nat} {t : Nat} {want b : Bool} {wr : Bool} {rest : List POp} {K : (Nat → PV) → Prop} (hb : σ t = .bool b) (hw : (b == want) = true)
  (h : WH env fr (⟨d, op, none, wr⟩ :: rest) σ S K) : WH env fr (⟨d, op, some (t, want), wr⟩ :: rest) σ S K := by
 obtain ⟨σ1, h1, h2⟩ := h
 refine ⟨σ1, ?_, h2⟩
 unfold XbF at h1 ⊢
 simp only [XaE, hb, hw] at h1 ⊢
 exact h1
theorem WO.box {t : TypeId} {x : Operand} {d : Option Nat} {rest : List POp} {e : Bool} {K : KS} {v : PV} {cs : List PV} (hd : XaS fr.ntmps d = true) (hz : XbD (Xa5 env.ctx σ (.box t x)) σ S = (σ, S)) (hx : opd σ x = v) (hs : v.storable = true) (hv : v.cells = cs) (H : Hp S0 R S C A W)
  (h : ∀ i S', Hp S0 R S' ((i, .cells cs) :: C) A W → WO env fr rest (upd σ d (.ptr i 0)) S' (e || false) K) : WO env fr (⟨d, .box t x, none, false⟩ :: rest) σ S e K :=
 WO.step hd (nz hz (XiO hx hs hv)) (h _ _ (H.push cs))
theorem WO.alloc {t : TypeId} {ti : TyI} {d : Option Nat} {rest : List POp} {e : Bool} {K : KS} {cs : List PV} (hd : XaS fr.ntmps d = true) (ht : env.ctx.ty t = some ti) (hs : ti.zero.storable = true) (hv : ti.zero.cells = cs) (H : Hp S0 R S C A W)
  (h : ∀ i S', Hp S0 R S' ((i, .cells cs) :: C) A W → WO env fr rest (upd σ d (.ptr i 0)) S' (e || false) K) : WO env fr (⟨d, .alloc t, none, false⟩ :: rest) σ S e K :=
 WO.step hd (nz rfl (XfR ht hs hv)) (h _ _ (H.push cs))
theorem WO.store (j : Nat) {t : TypeId} {a x : Operand} {d : Option Nat} {rest : List POp} {id off sz : Nat} {cs cs' xc : List PV} {v : PV} {e e' : Bool} {K : KS} (hd : XaS fr.ntmps d = true) (hz : XbD (Xa5 env.ctx σ (.store t a x)) σ S = (σ, S)) (H : Hp S0 R S C A W) (hj : C[j]? = some (id, .cells cs))
  (ho : opd σ a = .ptr id off) (hx : opd σ x = v) (ht : (env.ctx.ty t).map (·.size) = some sz)
  (hs : v.storable = true) (hv : v.cells = xc) (hl : xc.length = sz) (hb : off + sz ≤ cs.length) (hc : cs.take off ++ xc ++ cs.drop (off + sz) = cs') (he : (decide (id < fr.base) && !v.clean) = e')
  (h : ∀ S', Hp S0 R S' (C.set j (id, .cells cs')) A W → WO env fr rest (upd σ d (.tup [])) S' (e || e') K) : WO env fr (⟨d, .store t a x, none, false⟩ :: rest) σ S e K :=
 WO.step hd (nz hz (Xif ho hx (H.get j hj) ht hs hv hl hb hc he)) (h _ (H.set j hj cs'))
theorem XeQ {id : Nat} {v : PV} (h : fr.base ≤ id) : (decide (id < fr.base) && !v.clean) = false := by
 have : ¬ id < fr.base := by omega
 simp [this]
theorem XiQ {id : Nat} {v : PV} (h : v.clean = true) : (decide (id < fr.base) && !v.clean) = false := by simp [h]
theorem nzx {op : Op} {d : Option Nat} {g : Option (Nat × Bool)} {P : PV → List SObj → Prop} (hz : XbD (Xa5 env.ctx σ op) σ S = (σ, S)) (hs : ∃ v' S', stp env fr σ S op = some (v', S', false) ∧ P v' S') :
  ∃ v' S', stF env fr σ S ⟨d, op, g, false⟩ = some (v', S', false) ∧ P v' S' := by
 obtain ⟨v', S', h1, h2⟩ := hs
 exact ⟨v', S', nz hz h1, h2⟩
theorem WO.ex {rest : List POp} {op : Op} {d : Option Nat} {wr : Bool} {e : Bool} {K : KS} {P : PV → List SObj → Prop} (hd : XaS fr.ntmps d = true) (hs : ∃ v' S', stF env fr σ S ⟨d, op, none, wr⟩ = some (v', S', false) ∧ P v' S')
  (h : ∀ v' S', P v' S' → WO env fr rest (upd σ d v') S' (e || false) K) : WO env fr (⟨d, op, none, wr⟩ :: rest) σ S e K := by
 obtain ⟨v', S', h1, h2⟩ := hs
 exact WO.step hd h1 (h _ _ h2)
/-! Leaves -/
theorem KX.seq_n {K : KX} {P : KS} {e : Bool} (h : P σ S e) : K.seq P .normal σ S e := h
theorem KX.seq_x {K : KX} {P : KS} {e : Bool} {i : Nat} (h : K (.exit i) σ S e) : K.seq P (.exit i) σ S e := h
theorem KX.seq_r {K : KX} {P : KS} {e : Bool} (h : K .ret σ S e) : K.seq P .ret σ S e := h
theorem KX.block_n {K : KX} {e : Bool} {id : Nat} (h : K .normal σ S e) : K.block id .normal σ S e := h
theorem KX.block_x {K : KX} {e : Bool} {id : Nat} (h : K .normal σ S e) : K.block id (.exit id) σ S e := by simp only [KX.block, if_true]; exact h
theorem KX.block_y {K : KX} {e : Bool} {i id : Nat} (hi : (i == id) = false) (h : K (.exit i) σ S e) : K.block id (.exit i) σ S e := by
 have : ¬ i = id := by simpa using hi
 simp only [KX.block, if_neg this]; exact h
theorem KX.block_r {K : KX} {e : Bool} {id : Nat} (h : K .ret σ S e) : K.block id .ret σ S e := h
def KB (env : Env) (pf : PFn) (K : KV) : KX := fun x σ S' e => match x with
 | .normal => ∃ vs, XaT env.ctx S' σ pf.results = some vs ∧ if pf.raw then K (Xal vs) S' e else K (Xal (Xer vs S').1) (Xer vs S').2 e
 | .exit _ => False
 | .ret => ∃ vs, XaT env.ctx S' σ pf.results = some vs ∧ if pf.raw then K (Xal vs) S' e else K (Xal (Xer vs S').1) (Xer vs S').2 e
theorem WB.of {pf : PFn} {args : List PV} {K : KV} {c : PC} {rs : List ResultVar} {n : Nat} {rw : Bool} (hpf : pf = ⟨n, rs, c, rw⟩) (h : WC env ⟨n, S.length⟩ c (fun i => args.getD i (.tup [])) S false (KB env ⟨n, rs, c, rw⟩ K)) : WB env pf args S K := by
 subst hpf; exact h
theorem KB.ret {n : Nat} {rs : List ResultVar} {c : PC} {K : KV} {e : Bool} {vs : List PV} (hr : XaT env.ctx S σ rs = some vs) (hz : Xer vs S = (vs, S)) (h : K (Xal vs) S e) : KB env ⟨n, rs, c, false⟩ K .ret σ S e :=
 ⟨vs, hr, by simp only [Bool.false_eq_true, if_false, hz]; exact h⟩
theorem KB.normal {n : Nat} {rs : List ResultVar} {c : PC} {K : KV} {e : Bool} {vs : List PV} (hr : XaT env.ctx S σ rs = some vs) (hz : Xer vs S = (vs, S)) (h : K (Xal vs) S e) : KB env ⟨n, rs, c, false⟩ K .normal σ S e :=
 ⟨vs, hr, by simp only [Bool.false_eq_true, if_false, hz]; exact h⟩
theorem KB.retZ {n : Nat} {rs : List ResultVar} {c : PC} {K : KV} {e : Bool} {vs vs' : List PV} {S' : List SObj} (hr : XaT env.ctx S σ rs = some vs) (hz : Xer vs S = (vs', S')) (h : K (Xal vs') S' e) : KB env ⟨n, rs, c, false⟩ K .ret σ S e :=
 ⟨vs, hr, by simp only [Bool.false_eq_true, if_false, hz]; exact h⟩
theorem Xas {ctx : Ctx} : XaT ctx S σ [] = some [] := rfl
theorem Xk6 {ctx : Ctx} {t : Nat} {v : PV} {rs : List ResultVar} {vs : List PV} (h : σ t = v) (hr : XaT ctx S σ rs = some vs) : XaT ctx S σ (.tmp t :: rs) = some (v :: vs) := by
 simp only [XaT, Xet, h, hr]
theorem Xa0 {ctx : Ctx} {a : Nat} {t : TypeId} {id off : Nat} {cs : List PV} {v : PV} {rs : List ResultVar} {vs : List PV} (h : σ a = .ptr id off) (hg : S[id]? = some (.cells cs)) (hp : Xbz ctx t cs off = some v) (hr : XaT ctx S σ rs = some vs) :
  XaT ctx S σ (.cell a t :: rs) = some (v :: vs) := by
 simp only [XaT, Xet, Xb2, h, hg, hp, hr]
theorem WC.of_known {l : List (Nat × PV)} {c : PC} {e : Bool} {K : KX} (hk : Xa2 l σ) (h : WC env fr c (put l σ) S e K) : WC env fr c σ S e K := by
 rwa [XdA hk] at h
theorem WO.of_known {l : List (Nat × PV)} {c : List POp} {e : Bool} {K : KS} (hk : Xa2 l σ) (h : WO env fr c (put l σ) S e K) : WO env fr c σ S e K := by
 rwa [XdA hk] at h
theorem WH.of_known {l : List (Nat × PV)} {c : List POp} {K : (Nat → PV) → Prop} (hk : Xa2 l σ) (h : WH env fr c (put l σ) S K) : WH env fr c σ S K := by
 rwa [XdA hk] at h
theorem KX.of_known {l : List (Nat × PV)} {x : Ex} {e : Bool} {K : KX} (hk : Xa2 l σ) (h : K x (put l σ) S e) : K x σ S e := by
 rwa [XdA hk] at h
end Go.Pam
namespace Go.Pam
variable {env : Env} {fr : Fr} {σ : Nat → PV} {S : List SObj} {S0 : List SObj} {R : List Nat} {C : List (Nat × SObj)} {A : List (PV × Nat)} {W : List (PV × SObj)}
theorem WC.join {c : PC} {e : Bool} {K : KX} (P : KS) (h : WC env fr c σ S e (K.seq P)) (h2 : ∀ σ' S' e', P σ' S' e' → K .normal σ' S' e') : WC env fr c σ S e K := by
 obtain ⟨x, σ1, S1, e1, h1, hp⟩ := h
 cases x with
 | normal => exact ⟨_, _, _, _, h1, h2 _ _ _ hp⟩
 | exit i => exact ⟨_, _, _, _, h1, hp⟩
 | ret => exact ⟨_, _, _, _, h1, hp⟩
theorem WO.box' {t : TypeId} {x : Operand} {d : Option Nat} {rest : List POp} {e : Bool} {K : KS} {v : PV} {cs : List PV} (hd : XaS fr.ntmps d = true) (hz : XbD (Xa5 env.ctx σ (.box t x)) σ S = (σ, S)) (hx : opd σ x = v) (hs : v.storable = true) (hv : v.cells = cs) (H : Hp S0 R S C A W)
  (h : ∀ i S', S0.length ≤ i → Hp S0 R S' ((i, .cells cs) :: C) A W → WO env fr rest (upd σ d (.ptr i 0)) S' (e || false) K) : WO env fr (⟨d, .box t x, none, false⟩ :: rest) σ S e K :=
 WO.step hd (nz hz (XiO hx hs hv)) (h _ _ H.len (H.push cs))
theorem WO.alloc' {t : TypeId} {ti : TyI} {d : Option Nat} {rest : List POp} {e : Bool} {K : KS} {cs : List PV} (hd : XaS fr.ntmps d = true) (ht : env.ctx.ty t = some ti) (hs : ti.zero.storable = true) (hv : ti.zero.cells = cs) (H : Hp S0 R S C A W)
  (h : ∀ i S', S0.length ≤ i → Hp S0 R S' ((i, .cells cs) :: C) A W → WO env fr rest (upd σ d (.ptr i 0)) S' (e || false) K) : WO env fr (⟨d, .alloc t, none, false⟩ :: rest) σ S e K :=
 WO.step hd (nz rfl (XfR ht hs hv)) (h _ _ H.len (H.push cs))
theorem Xe3 {S' : List SObj} {id : Nat} {cs : List PV} {v v' : PV} {c0 : List PV} (h0 : S0[id]? = some (.cells c0)) (H : Hp S0 [id] S' C A W) (j : Nat) (hj : C[j]? = some (id, .cells cs)) (hv : v.strip = v') (hc : v'.clean = true) :
  XfB S0.length v S' false = (v', S0.set id (.cells cs), false) := by
 have hid := (List.getElem?_eq_some_iff.1 h0).1
 refine Xl1 rfl hv hc (by simp) H.len fun i hi => ?_
 rw [List.getElem?_set]
 split
 ·rename_i he; subst he; exact H.get j hj
 ·rename_i he; exact H.old i hi (by simpa using fun h => he h.symm)
theorem Xk7 {f : FuncId} {pf : PFn} (hi : env.intr f = none) (hf : env.fn f = some pf) {args : List PV} {S : List SObj} {r : PV × List SObj × Bool}
  (hl : args.length ≤ pf.ntmps) (hc : XaW (args.map PV.strip) = false)
  (h : WB env pf args S fun v S' e => XfB S.length v S' e = r) : evw env f args S = some r := by
 obtain ⟨q, h1, h2⟩ := Xka (K := fun q => q = r) hi hf hl hc h
 rw [h1, h2]
theorem WO.callR (j : Nat) {f : FuncId} {op : Operand} {args : Array Operand} {ts : Array TypeId} {d : Option Nat} {rest : List POp} {cap vs cs cs' : List PV} {id : Nat} {v : PV} {e : Bool} {K : KS} (hd : XaS fr.ntmps d = true)
  (hf : opd σ op = .fn (.func f) [] cap) (ha : args.toList.map (opd σ) ++ cap = vs) (hz : XbD (Xa5 env.ctx σ (.call ⟨.value op, args, ts⟩)) σ S = (σ, S)) (H : Hp S0 R S C A W) (hj : C[j]? = some (id, .cells cs)) (hc : evw env f vs S = some (v, S.set id (.cells cs'), false))
  (h : ∀ S', Hp S0 R S' (C.set j (id, .cells cs')) A W → WO env fr rest (upd σ d v) S' (e || false) K) : WO env fr (⟨d, .call ⟨.value op, args, ts⟩, none, false⟩ :: rest) σ S e K :=
 WO.step hd (nz hz (XcA hf ha hc)) (h _ (H.set j hj cs'))
end Go.Pam
namespace Go.Pam
variable {env : Env} {fr : Fr} {σ : Nat → PV} {S : List SObj} {S0 : List SObj} {R : List Nat} {C : List (Nat × SObj)} {A : List (PV × Nat)} {W : List (PV × SObj)}
end Go.Pam
namespace Go.Pam
variable {env : Env} {fr : Fr} {σ : Nat → PV} {S : List SObj} {S0 : List SObj} {R : List Nat} {C : List (Nat × SObj)} {A : List (PV × Nat)} {W : List (PV × SObj)}
theorem Hp.grown (h : Hp S0 R S C A W) (j : Nat) {ei : TyI} {ys : List PV} {v v' : PV} {S' : List SObj} (hj : A[j]? = some (v, ei.size)) (hg : Xc3 ei v ys S = some (v', S')) : Hp S0 R S' C (A.set j (v', ei.size)) W := by
 have happ := (h.app _ (Xek hj)).1
 cases happ with
 | nil =>
  simp only [Xc3] at hg
  split at hg
  ·injection hg with hg; injection hg with h1 h2; subst h1 h2; exact h.repl j _
  ·cases hg
 | full zs hz =>
  simp only [Xc3] at hg
  split at hg
  ·injection hg with hg; injection hg with h1 h2; subst h1 h2
   have := h.repl j (sz := ei.size) (zs ++ ys)
   simpa using this
  ·cases hg
 | tip zs id hz =>
  simp only at hz
  simp only [Xc3, hz] at hg
  split at hg
  ·injection hg with hg; injection hg with h1 h2; subst h1 h2; exact h.grow j hj _
  ·cases hg
theorem Xkc {x z : Sl Int} {v : PV} {s : Str} {a b : Operand} {t u e : TypeId} {ei : TyI} (H : Hp S0 R S C A W) (j : Nat) (hj : A[j]? = some (v, ei.size))
  (ho : opd σ a = v) (hx : Xa8 (eI .u8) x v) (hb : opd σ b = .str s)
  (ht : (env.ctx.ty t).map (·.und) = some (.slice e)) (hu : (env.ctx.ty u).map (·.und) = some .string) (he : env.ctx.ty e = some ei)
  (hok : (decide (ei.size = 1) && decide (ei.bytes ≠ 0) && ei.zero.storable && decide (ei.zero.cells.length = ei.size)) = true)
  (hz : Sl.app? ei.bytes x (Sl.l (Str.bytes s)) = some z) :
  ∃ v' S', stp env fr σ S (.call ⟨.builtin .append, #[a, b], #[t, u]⟩) = some (v', S', false) ∧ Xa8 (eI .u8) z v' ∧ Hp S0 R S' C (A.set j (v', ei.size)) W := by
 simp only [Bool.and_eq_true, decide_eq_true_eq] at hok
 obtain ⟨⟨⟨k1, k2⟩, k3⟩, k4⟩ := hok
 cases hti : env.ctx.ty t with
 | none => rw [hti] at ht; cases ht
 | some ti =>
 rw [hti] at ht
 have ht' : ti.und = .slice e := by simpa using ht
 cases hui : env.ctx.ty u with
 | none => rw [hui] at hu; cases hu
 | some ui =>
 rw [hui] at hu
 have hu' : ui.und = .string := by simpa using hu
 unfold Sl.app? at hz
 split at hz
 case isFalse => cases hz
 rename_i hfit
 injection hz with hz
 have hl : (Sl.l (Str.bytes s)).map (eI .u8) = s.map fun b => PV.int .u8 b.toNat := by simp [Sl.l, Str.bytes, Function.comp_def]
 have hlen : (Sl.l (Str.bytes s)).length = s.length := by simp [Sl.l, Str.bytes]
 have hlist : Xd1 (.str s) = some ((Sl.l (Str.bytes s)).map (eI .u8)) := by rw [hl]; rfl
 have happ := (H.app _ (Xek hj)).1
 generalize hys : Sl.l (Str.bytes s) = ys at *
 cases hemp : ys.isEmpty with
 | true =>
  rw [hemp] at hz
  simp only [if_true] at hz
  subst hz
  have hnil : ys = [] := by simpa using hemp
  have hsl : Xf7 v = true := by cases happ <;> rfl
  refine ⟨v, S, ?_, hx, ?_⟩
  ·simp only [stp, XaL, Xct, List.map_cons, List.map_nil, ho, hb, Xbi]
   simp only [List.getElem?_toArray, List.getElem?_cons_zero, List.getElem?_cons_succ, hti, hui, hlist, ht', hu', he]
   simp [hnil, hsl]
  ·have : A.set j (v, ei.size) = A := by
    apply List.ext_getElem?
    intro i
    rw [List.getElem?_set]
    split
    ·rename_i hi; subst hi; rw [hj]; split
     ·rfl
     ·have := (List.getElem?_eq_some_iff.1 hj).1; omega
    ·rfl
   rw [this]; exact H
 | false =>
  rw [hemp] at hz
  simp only [Bool.false_eq_true, if_false] at hz
  subst hz
  have hne : (ys.map (eI .u8)).isEmpty = false := by simpa using hemp
  have hsz : Xbg ei.size (ys.map (eI .u8)) = true := by rw [k1]; exact Xcv (f := eI .u8) (fun _ => rfl) ys
  have cond : ¬ (Xbg ei.size (ys.map (eI .u8)) = false ∨ ei.size = 0 ∨ ei.bytes = 0 ∨ ei.zero.storable = false ∨ ei.zero.cells.length ≠ ei.size) := by
   rw [hsz]; simp [k1, k2, k3, k4]
  have red : stp env fr σ S (.call ⟨.builtin .append, #[a, b], #[t, u]⟩) = (Xc3 ei v (ys.map (eI .u8)) S).map fun (v, S') => (v, S', false) := by
   simp only [stp, XaL, Xct, List.map_cons, List.map_nil, ho, hb, Xbi]
   simp only [List.getElem?_toArray, List.getElem?_cons_zero, List.getElem?_cons_succ, hti, hui, hlist, ht', hu', he, hne, Bool.false_eq_true, if_false]
   rw [if_neg cond]
   rfl
  rw [red]
  have key : ∃ v' S', Xc3 ei v (ys.map (eI .u8)) S = some (v', S') ∧ Xa8 (eI .u8) (some (x.l ++ ys)) v' := by
   cases x with
   | none =>
    cases hx
    have hfit : ys.length * ei.bytes ≤ 2 ^ 47 := by have h := hfit; rw [show (Sl.l (none : Sl Int)).length = 0 from rfl, Nat.zero_add] at h; exact h
    exact ⟨.lst (ys.map (eI .u8)) (.tip S.length), S ++ [.tip (ys.map (eI .u8)).length ei.size], by unfold Xc3; simp only; rw [if_pos (by simpa using hfit)], .tip S.length, by simp [Sl.l]⟩
   | some l =>
    obtain ⟨tag, rfl⟩ := hx
    have hfit : (l.length + ys.length) * ei.bytes ≤ 2 ^ 47 := hfit
    cases tag with
    | none => cases happ
    | full =>
     cases happ with
     | full _ hs =>
     exact ⟨.lst (l.map (eI .u8) ++ ys.map (eI .u8)) (.tip S.length), S ++ [.tip ((l.map (eI .u8)).length + (ys.map (eI .u8)).length) ei.size], by unfold Xc3; simp only [hs]; rw [if_pos ⟨by simpa using hfit, trivial⟩], .tip S.length, by simp [Sl.l]⟩
    | tip id =>
     cases happ with
     | tip _ _ hs =>
     exact ⟨.lst (l.map (eI .u8) ++ ys.map (eI .u8)) (.tip id), S.set id (.tip ((l.map (eI .u8)).length + (ys.map (eI .u8)).length) ei.size), by unfold Xc3; simp only [hs]; rw [if_pos ⟨trivial, trivial, by simpa using hfit⟩], .tip id, by simp [Sl.l]⟩
  obtain ⟨v', S', h1, h2⟩ := key
  exact ⟨v', S', by rw [h1]; rfl, h2, H.grown j hj h1⟩
end Go.Pam
namespace Go.Pam
theorem XaI (k : IntKind) (n : Int) : (PV.int k n).strip = .int k n := rfl
theorem Xhq (b : Bool) : (PV.bool b).strip = .bool b := rfl
theorem Xig (s : List UInt8) : (PV.str s).strip = .str s := rfl
theorem Xhr : PV.nils.strip = .nils := rfl
theorem XaX (l : List PV) (t : Tag) : (PV.lst l t).strip = .lst l .none := rfl
theorem Xax (l : List PV) : (PV.agg l).strip = .agg (l.map PV.strip1) := rfl
theorem Xa7 (l : List PV) : (PV.tup l).strip = .tup (l.map PV.strip2) := rfl
theorem Xl4 (f : Fn) (a b : List PV) : (PV.fn f a b).strip = .fn f a b := rfl
theorem Xap (k : IntKind) (n : Int) : (PV.int k n).strip1 = .int k n := rfl
theorem XbN (b : Bool) : (PV.bool b).strip1 = .bool b := rfl
theorem Xaq (s : List UInt8) : (PV.str s).strip1 = .str s := rfl
theorem Xbp : PV.nils.strip1 = .nils := rfl
theorem XdD (l : List PV) (t : Tag) : (PV.lst l t).strip1 = .lst l .none := rfl
theorem Xb8 (k : IntKind) (n : Int) : (PV.int k n).strip2 = .int k n := rfl
theorem Xhs (b : Bool) : (PV.bool b).strip2 = .bool b := rfl
theorem XiR (s : List UInt8) : (PV.str s).strip2 = .str s := rfl
theorem Xht : PV.nils.strip2 = .nils := rfl
theorem XiS (l : List PV) (t : Tag) : (PV.lst l t).strip2 = .lst l .none := rfl
theorem Xb1 (l : List PV) : (PV.agg l).strip2 = .agg (l.map PV.strip1) := rfl
end Go.Pam
namespace Go.Pam
theorem Xbc {α : Type} (f : α → PV) : Xar f (none : Sl α) = .nils := rfl
theorem Xa3 {α : Type} (f : α → PV) (l : List α) : Xar f (some l) = .lst (l.map f) .none := rfl
end Go.Pam
namespace Go.Pam
theorem fc {α : Type} {P : α → Prop} {a : α} {l : List α} (h : P a) (hl : ∀ p ∈ l, P p) : ∀ p ∈ a :: l, P p := fun p hp => by
 rcases List.mem_cons.1 hp with rfl | hp
 ·exact h
 ·exact hl p hp
end Go.Pam
namespace Go.Pam
theorem XdQ : ∀ n, (eS n).clean = true := fun _ => rfl
end Go.Pam
namespace Go.Pam
variable {env : Env} {fr : Fr} {σ : Nat → PV} {S : List SObj}
theorem WD.split (n : Nat) {hd tl : List POp} {e : Bool} {K : KS} (P : KS) (h : WH env fr hd σ S fun σ' => WO env fr (tl.take n) σ' S e P) (h2 : ∀ σ' S' e', P σ' S' e' → WO env fr (tl.drop n) σ' S' e' K) :
  WH env fr hd σ S fun σ' => WO env fr tl σ' S e K := by
 obtain ⟨σ1, h1, hp⟩ := h
 exact ⟨σ1, h1, WO.split n P hp h2⟩
end Go.Pam
namespace Go.Pam
theorem XeC {x y : Int} (h : -9223372036854775808 ≤ x + y ∧ x + y < 9223372036854775808) : ad .i64 x y = x + y := IntWalk.i64_in _ (by omega)
theorem Xk8 {x y : Int} (h : -9223372036854775808 ≤ x - y ∧ x - y < 9223372036854775808) : sb .i64 x y = x - y := IntWalk.i64_in _ (by omega)
theorem ml64 {x y : Int} (h : -9223372036854775808 ≤ x * y ∧ x * y < 9223372036854775808) : ml .i64 x y = x * y := IntWalk.i64_in _ (by omega)
theorem XmH {x : Int} (h : -9223372036854775808 ≤ x ∧ x < 9223372036854775808) : cv .i64 x = x := IntWalk.i64_in _ (by omega)
theorem cv8 {x : Int} (h : 0 ≤ x ∧ x < 256) : cv .u8 x = x := IntWalk.u8_in _ (by omega)
theorem XaK {i : Nat} (h : i < 9223372036854775000) : ad .i64 (i : Int) 1 = ((i + 1 : Nat) : Int) := by rw [XeC (by omega)]; omega
theorem Sl.at?_nat {α : Type} (a : Sl α) (i : Nat) : Sl.at? a (i : Int) = a.l[i]? := by simp [Sl.at?]
theorem Sl.len_nat {α : Type} (a : Sl α) : Sl.len a = ((a.l.length : Nat) : Int) := rfl
theorem Str.len_nat (s : Str) : Str.len s = ((s.length : Nat) : Int) := rfl
theorem Str.at?_nat (s : Str) (i : Nat) : Str.at? s (i : Int) = (s[i]?).map fun b => (b.toNat : Int) := by simp [Str.at?]
theorem Str.sub?_nat {s : Str} {l h : Nat} (h1 : l ≤ h) (h2 : h ≤ s.length) : Str.sub? s (l : Int) (h : Int) = some ((s.take h).drop l) := by
 unfold Str.sub?
 rw [if_pos (by omega)]
 simp
theorem Str.app?_ok {a b : Str} (h : a.length + b.length < 9223372036854775808) : Str.app? a b = some (a ++ b) := by
 unfold Str.app?
 rw [if_neg]
 show ¬ ((a.length + b.length : Nat) : Int) > 9223372036854775807
 omega
theorem Sl.app?_ok {α : Type} {bytes : Nat} {x : Sl α} {ys : List α} (hy : ys ≠ []) (h : (x.l.length + ys.length) * bytes ≤ 2 ^ 47) : Sl.app? bytes x ys = some (some (x.l ++ ys)) := by
 unfold Sl.app?
 rw [if_pos h]
 cases ys with
 | nil => exact absurd rfl hy
 | cons y ys => rfl
theorem Sl.app?_l {α : Type} {bytes : Nat} {x : Sl α} {ys : List α} (h : (x.l.length + ys.length) * bytes ≤ 2 ^ 47) : ∃ z, Sl.app? bytes x ys = some z ∧ z.l = x.l ++ ys := by
 unfold Sl.app?
 rw [if_pos h]
 cases ys with
 | nil => exact ⟨x, rfl, by simp⟩
 | cons y ys => exact ⟨_, rfl, rfl⟩
theorem Sl.l_some {α : Type} (l : List α) : Sl.l (some l) = l := rfl
theorem Sl.l_none {α : Type} : Sl.l (none : Sl α) = [] := rfl
theorem Str.bytes_l (s : Str) : (Str.bytes s).l = s.map fun b => (b.toNat : Int) := rfl
theorem Str.of_bytes_map (s : Str) : Str.of (some (s.map fun b => (b.toNat : Int))) = s := by
 simp only [Str.of, Sl.l, Option.getD_some, List.map_map]
 conv => rhs; rw [← List.map_id s]
 apply List.map_congr_left
 intro b _
 simp
theorem Xjs {a : Int} (h0 : 0 ≤ a) {n : Nat} (hn : 0 < n) : ∃ m : Nat, m < n ∧ Xl2 a n = some (m : Int) := by
 refine ⟨(a.tmod n).toNat, ?_, ?_⟩
 ·rw [Int.tmod_eq_emod_of_nonneg h0]; have := Int.emod_lt_of_pos a (b := n) (by omega); have := Int.emod_nonneg a (b := n) (by omega); omega
 ·unfold Xl2; rw [if_neg (by omega), Int.tmod_eq_emod_of_nonneg h0]; have := Int.emod_nonneg a (b := n) (by omega); congr 1; omega
theorem Xk9 {x : Int} (h : 0 ≤ x ∧ x < 1099511627776) : Xlm .i64 x 8 = some (256 * x) := by
 unfold Xlm
 rw [if_neg (by omega)]
 have h1 : (2 : Int) ^ (min (8 : Int).toNat IntKind.i64.bits) = 256 := by decide
 rw [h1]
 congr 1
 rw [show x * 256 = 256 * x by omega]
 exact IntWalk.i64_in _ (by omega)
theorem Xih {x y : Int} (hx : 0 ≤ x ∧ x < 1099511627776) (hy : 0 ≤ y ∧ y < 256) : bOr .i64 (256 * x) y = 256 * x + y := by
 obtain ⟨m, rfl⟩ : ∃ m : Nat, x = m := ⟨x.toNat, by omega⟩
 obtain ⟨b, rfl⟩ : ∃ b : Nat, y = b := ⟨y.toNat, by omega⟩
 unfold bOr
 have h2 : (BitVec.ofInt IntKind.i64.bits (256 * (m : Int)) ||| BitVec.ofInt IntKind.i64.bits (b : Int)).toNat = 2 ^ 8 * m + b := by
  rw [BitVec.toNat_or]
  have e1 : (BitVec.ofInt IntKind.i64.bits (256 * (m : Int))).toNat = 2 ^ 8 * m := by
   rw [show 256 * (m : Int) = ((2 ^ 8 * m : Nat) : Int) by omega, BitVec.ofInt_natCast, BitVec.toNat_ofNat]
   exact Nat.mod_eq_of_lt (by show 2 ^ 8 * m < 2 ^ 64; omega)
  have e2 : (BitVec.ofInt IntKind.i64.bits (b : Int)).toNat = b := by
   rw [BitVec.ofInt_natCast, BitVec.toNat_ofNat]
   exact Nat.mod_eq_of_lt (by show b < 2 ^ 64; omega)
  rw [e1, e2, Nat.two_pow_add_eq_or_of_lt (by omega)]
 rw [h2]
 rw [IntWalk.i64_in _ (by omega)]
 omega
theorem bnd {α β : Type} {x : Option α} {a : α} (h : x = some a) (f : α → Option β) : x.bind f = f a := by rw [h]; rfl
theorem XaN {α : Type} {c : Bool} (h : c = true) (a b : α) : (if c = true then a else b) = a := if_pos h
theorem XaC {α : Type} {c : Bool} (h : c = false) (a b : α) : (if c = true then a else b) = b := by rw [h]; rfl
theorem XoS {α : Type} (a b : α) : (if (!true) = true then a else b) = b := rfl
theorem XoT {α : Type} (a b : α) : (if (!false) = true then a else b) = a := rfl
end Go.Pam
namespace Go.Pam
open Go.RowKit Go.Deep Go.WideShapes
def CV (w : World) (cells : List PV) (cs : List Value) : Prop :=
 cells.length = cs.length ∧ ∀ (j : Nat) (c : PV) (v : Value), cells[j]? = some c → cs[j]? = some v → V (g0 w) w 0 c v ∧ v.oneCell' = true
variable {H : Type} {enc : TypeId × Value → H} {P : Program} {w : World} {sp : Nat → Bool} {held : Bool}
def XgC (enc : TypeId × Value → H) (P : Program) (w : World) (sp : Nat → Bool) (held : Bool) (fuel : Nat) (t : TypeId) {α : Type} (f : α → PV) (ok : α → Prop) : Prop :=
 ∀ cs x, DataW.trod enc P w 0 sp held fuel t cs = some x → ∃ a, ok a ∧ CV w (f a).cells cs
theorem CV.one {c : PV} {v : Value} (h : V (g0 w) w 0 c v) (ho : v.oneCell' = true) : CV w [c] [v] := by
 refine ⟨rfl, fun j c' v' hc hv => ?_⟩
 cases j with
 | zero => simp only [List.getElem?_cons_zero, Option.some.injEq] at hc hv; subst hc hv; exact ⟨h, ho⟩
 | succ j => simp at hc
theorem CV.append {a b : List PV} {x y : List Value} (h : CV w a x) (k : CV w b y) : CV w (a ++ b) (x ++ y) := by
 refine ⟨by simp [h.1, k.1], fun j c v hc hv => ?_⟩
 rcases Nat.lt_or_ge j a.length with hj | hj
 ·rw [List.getElem?_append_left hj] at hc
  rw [List.getElem?_append_left (by rw [← h.1]; exact hj)] at hv
  exact h.2 j c v hc hv
 ·rw [List.getElem?_append_right hj] at hc
  rw [List.getElem?_append_right (by rw [← h.1]; exact hj), ← h.1] at hv
  exact k.2 _ c v hc hv
theorem Xb3 {fuel : Nat} {t : TypeId} {k : IntKind} (ht : P.underlying t = some (.int k)) : XgC enc P w sp held fuel t (eI k) (fun n => (Lit.int k n).wf = true) := by
 intro cs x h
 obtain ⟨n, rfl, _, hw⟩ := DataW.trod_int ht h
 exact ⟨n, hw, CV.one (.int k n) rfl⟩
theorem XgP {fuel : Nat} {t : TypeId} (ht : P.underlying t = some .bool) : XgC enc P w sp held fuel t eB (fun _ => True) := by
 intro cs x h
 obtain ⟨b, rfl, _⟩ := DataW.trod_bool ht h
 exact ⟨b, trivial, CV.one (.bool b) rfl⟩
theorem Xbt {fuel : Nat} {t : TypeId} (ht : P.underlying t = some .string) : XgC enc P w sp held fuel t eS (fun s => s.length ≤ maxLen) := by
 intro cs x h
 have h0 := h
 obtain ⟨s, rfl, _⟩ := DataW.trod_string ht h
 refine ⟨s.data.toList, ?_, CV.one (.str s) rfl⟩
 cases fuel with
 | zero => simp [DataW.trod] at h0
 | succ n =>
  unfold DataW.trod at h0
  rw [ht] at h0
  simp only at h0
  split at h0
  ·rename_i hs; simpa using hs
  ·cases h0
theorem Xkd {b o : Nat} {v : Value} (h : w.cell? ⟨b, o, none⟩ = some v) : o < (g0 w).pp b := by
 show o < XoQ w b
 unfold World.cell? at h
 unfold XoQ
 split at h
 ·rename_i c t fr hb
  simp only [Option.isSome_none, Bool.false_eq_true, if_false] at h
  simp only [hb]
  exact (Array.getElem?_eq_some_iff.1 h).1
 ·cases h
theorem XcL {α : Type} {f : α → PV} {ok : α → Prop} {fuel : Nat} {t e : TypeId} {sz : Nat} (ht : P.underlying t = some (.slice e)) (hsz : P.cellsOf e = sz) (hpos : 0 < sz) (hf : ∀ a, (f a).cells.length = sz)
  (hsp : ∀ b, sp b = true) (h : ∀ n, n < fuel → XgC enc P w sp held n e f ok) : XgC enc P w sp held fuel t (Xar f) (fun x => x.l.length ≤ maxLen ∧ ∀ a ∈ x.l, ok a) := by
 intro cs x hx
 rcases DataW.trod_slice ht hx with ⟨rfl, _⟩ | ⟨a, len, cap, elems, rest, n, hn, rfl, _, hb, hl, hm, hlen, hel, hrest, _⟩
 ·exact ⟨none, ⟨by simp [Sl.l], by simp [Sl.l]⟩, CV.one .nils rfl⟩
 ·subst hsz
  have hall : ∀ i, i < len → ∃ (cs' : List Value) (y : DataW H × List MemPlace), w.cells? 0 (a.add (i * P.cellsOf e)) (P.cellsOf e) = some cs' ∧ DataW.trod enc P w 0 sp held n e cs' = some y := by
   intro i hi
   have he : elems[i]? = some elems[i] := List.getElem?_eq_getElem (by omega)
   have := hel i hi
   rw [he] at this
   cases hc : w.cells? 0 (a.add (i * P.cellsOf e)) (P.cellsOf e) with
   | none => rw [hc] at this; cases this
   | some cs' => rw [hc] at this; exact ⟨cs', _, rfl, this⟩
  have hch : ∀ i, i < len → ∃ (cs' : List Value) (z : α), w.cells? 0 (a.add (i * P.cellsOf e)) (P.cellsOf e) = some cs' ∧ ok z ∧ CV w (f z).cells cs' := by
   intro i hi
   obtain ⟨cs', y, h1, h2⟩ := hall i hi
   obtain ⟨z, hz, hcv⟩ := h n (by omega) cs' y h2
   exact ⟨cs', z, h1, hz, hcv⟩
  have hlist : ∀ m, m ≤ len → ∃ (zs : List α), zs.length = m ∧ (∀ z ∈ zs, ok z) ∧ ∀ i z, zs[i]? = some z → ∃ cs', w.cells? 0 (a.add (i * P.cellsOf e)) (P.cellsOf e) = some cs' ∧ CV w (f z).cells cs' := by
   intro m
   induction m with
   | zero => exact fun _ => ⟨[], rfl, by simp, by simp⟩
   | succ m ih =>
    intro hm'
    obtain ⟨zs, h1, h2, h3⟩ := ih (by omega)
    obtain ⟨cs', z, g1, g2, g3⟩ := hch m (by omega)
    refine ⟨zs ++ [z], by simp [h1], fun y hy => ?_, fun i y hy => ?_⟩
    ·rcases List.mem_append.1 hy with hy | hy
     ·exact h2 y hy
     ·rw [List.mem_singleton] at hy; subst hy; exact g2
    ·rcases Nat.lt_or_ge i zs.length with hi | hi
     ·rw [List.getElem?_append_left hi] at hy; exact h3 i y hy
     ·have : i = m := by
       have := (List.getElem?_eq_some_iff.1 hy).1
       simp at this; omega
      subst this
      rw [List.getElem?_append_right (by omega), h1, Nat.sub_self] at hy
      simp only [List.getElem?_cons_zero, Option.some.injEq] at hy
      subst hy
      exact ⟨cs', g1, g3⟩
  obtain ⟨zs, z1, z2, z3⟩ := hlist len (Nat.le_refl _)
  refine ⟨some zs, ⟨by simp [Sl.l]; omega, by simpa [Sl.l] using z2⟩, ?_⟩
  show CV w [PV.lst (zs.map f) .none] [Value.slice (some a) len cap]
  refine CV.one ?_ rfl
  have spot0 : ∀ (cs' : List Value), w.cells? 0 (a.add (0 * P.cellsOf e)) (P.cellsOf e) = some cs' → a.spot = none := by
   intro cs' g1
   obtain ⟨b, o, s⟩ := a
   obtain ⟨_, k1, k2⟩ := World.cells?_some g1
   have := k2 0 hpos
   have hl0 : 0 < cs'.length := by omega
   rw [List.getElem?_eq_getElem hl0] at this
   simp only [Nat.zero_mul, Addr.add, if_true] at this
   cases s with
   | none => rfl
   | some s =>
    unfold World.cell? at this
    split at this
    ·simp at this
    ·cases this
  by_cases hz0 : len = 0 ∧ cap = 0
  ·obtain ⟨rfl, rfl⟩ := hz0
   obtain rfl : zs = [] := List.eq_nil_of_length_eq_zero (by omega)
   exact .lst0 a
  ·have hspot : a.spot = none := by
    by_cases hl0 : len = 0
    ·subst hl0
     have hr := hrest (hsp _)
     have h0 : 0 < rest.length := by omega
     have := hr.2 0 (by omega)
     rw [List.getElem?_eq_getElem h0] at this
     cases hc : w.cells? 0 (a.add (0 * P.cellsOf e)) (P.cellsOf e) with
     | none => simp only [Nat.add_zero, hc] at this; cases this
     | some cs' => exact spot0 cs' hc
    ·obtain ⟨cs', g1, g2⟩ := z3 0 _ (List.getElem?_eq_getElem (by omega : 0 < zs.length))
     exact spot0 cs' g1
   obtain ⟨b, o, s⟩ := a
   simp only at hspot
   subst hspot
   have cell : ∀ (i : Nat) (y : α) (j : Nat) (c : PV), zs[i]? = some y → (f y).cells[j]? = some c → ∃ v, w.cell? ⟨b, o + i * P.cellsOf e + j, none⟩ = some v ∧ V (g0 w) w 0 c v ∧ v.oneCell' = true := by
    intro i y j c hy hc
    obtain ⟨cs', g1, g2⟩ := z3 i y hy
    obtain ⟨_, k1, k2⟩ := World.cells?_some g1
    have hj : j < P.cellsOf e := by rw [← hf y]; exact (List.getElem?_eq_some_iff.1 hc).1
    have := k2 j hj
    have hl : j < cs'.length := by omega
    rw [List.getElem?_eq_getElem hl] at this
    have hadd : (Addr.add ⟨b, o, none⟩ (i * P.cellsOf e)).add j = ⟨b, o + i * P.cellsOf e + j, none⟩ := by
     rw [Xc2, Xc2]
    rw [hadd] at this
    exact ⟨cs'[j], this, g2.2 j c cs'[j] hc (List.getElem?_eq_getElem hl)⟩
   have := V.lst (g := g0 w) (w := w) (n := 0) (zs.map f) .none b o cap (P.cellsOf e) (fun i j => (w.cell? ⟨b, o + i * P.cellsOf e + j, none⟩).getD undef) (by rw [List.length_map]; omega)
    (fun i x hx => by
     rw [List.getElem?_map] at hx
     cases hy : zs[i]? with
     | none => rw [hy] at hx; cases hx
     | some y => rw [hy] at hx; simp only [Option.map_some, Option.some.injEq] at hx; subst hx; exact hf y)
    (fun i x j c hx hc => by
     rw [List.getElem?_map] at hx
     cases hy : zs[i]? with
     | none => rw [hy] at hx; cases hx
     | some y => rw [hy] at hx; simp only [Option.map_some, Option.some.injEq] at hx; subst hx; obtain ⟨v, g1, _⟩ := cell i y j c hy hc; exact Xkd g1)
    (fun i x j c hx hc => by
     rw [List.getElem?_map] at hx
     cases hy : zs[i]? with
     | none => rw [hy] at hx; cases hx
     | some y => rw [hy] at hx; simp only [Option.map_some, Option.some.injEq] at hx; subst hx; obtain ⟨v, g1, _⟩ := cell i y j c hy hc; rw [g1]; rfl)
    (fun i x j c hx hc => by
     rw [List.getElem?_map] at hx
     cases hy : zs[i]? with
     | none => rw [hy] at hx; cases hx
     | some y => rw [hy] at hx; simp only [Option.map_some, Option.some.injEq] at hx; subst hx; obtain ⟨v, g1, g2, _⟩ := cell i y j c hy hc; rw [g1]; exact g2)
    (fun i x j hx hj => by
     rw [List.getElem?_map] at hx
     cases hy : zs[i]? with
     | none => rw [hy] at hx; cases hx
     | some y =>
      rw [hy] at hx; simp only [Option.map_some, Option.some.injEq] at hx; subst hx
      obtain ⟨v, g1, _, g3⟩ := cell i y j _ hy (List.getElem?_eq_getElem (by rw [hf y]; exact hj)); rw [g1]; exact g3) trivial
   rw [List.length_map, z1] at this
   exact this
end Go.Pam
namespace Go.Pam
open Go.RowKit Go.Deep Go.WideShapes
variable {w : World}
theorem CV.field {a b : List PV} {cs : List Value} {o s : Nat} (h : CV w a ((cs.drop o).take s)) (k : CV w b (cs.drop (o + s))) : CV w (a ++ b) (cs.drop o) := by
 have := h.append k
 rwa [← List.drop_drop, List.take_append_drop] at this
theorem CV.fin {cs : List Value} {o : Nat} (h : cs.length = o) : CV w [] (cs.drop o) := by
 rw [List.drop_eq_nil_of_le (by omega)]
 exact ⟨rfl, fun j c v hc => by simp at hc⟩
theorem CV.agg {cells : List PV} {cs : Array Value} (h : CV w cells cs.toList) : V (g0 w) w 0 (.agg cells) (.agg cs) := by
 refine .agg cells cs (by rw [h.1]; simp) (fun i c hi => ?_) (fun v hv => ?_)
 ·have hlt : i < cs.size := by have := (List.getElem?_eq_some_iff.1 hi).1; rw [h.1] at this; simpa using this
  have := (h.2 i c cs[i] hi (by rw [Array.getElem?_toList]; exact Array.getElem?_eq_getElem hlt)).1
  rwa [Array.getD_eq_getD_getElem?, Array.getElem?_eq_getElem hlt]
 ·obtain ⟨i, hi, rfl⟩ := Array.mem_iff_getElem.1 hv
  have hl : i < cells.length := by rw [h.1]; simpa using hi
  exact (h.2 i cells[i] cs[i] (List.getElem?_eq_getElem hl) (by rw [Array.getElem?_toList]; exact Array.getElem?_eq_getElem hi)).2
theorem CV.single {c : PV} {v : Value} {cs : List Value} (h : CV w [c] cs) (hv : cs = [v]) : V (g0 w) w 0 c v := by
 subst hv
 exact (h.2 0 c v rfl rfl).1
variable {H : Type} {enc : TypeId × Value → H} {P : Program} {sp : Nat → Bool} {held : Bool}
theorem Xfy {α : Type} {f : α → PV} {ok : α → Prop} {t : TypeId} {v : Value} {d : DataW H} {ps : List MemPlace} (ho : ∀ n, XgC enc P w sp held n t f ok) (hf : ∀ a, (f a).cells = [f a]) (hv : v.cells.toList = [v]) (h : DataW.Trod enc P w 0 sp held t v d ps) :
  ∃ a, ok a ∧ V (g0 w) w 0 (f a) v := by
 obtain ⟨n, hn⟩ := h
 obtain ⟨a, h1, h2⟩ := ho n _ _ hn
 rw [hf] at h2
 exact ⟨a, h1, h2.single hv⟩
theorem Xl5 {α : Type} {f : α → PV} {ok : α → Prop} {t : TypeId} {cs : Array Value} {d : DataW H} {ps : List MemPlace} (ho : ∀ n, XgC enc P w sp held n t f ok) (hf : ∀ a, f a = .agg (f a).cells) (h : DataW.Trod enc P w 0 sp held t (.agg cs) d ps) :
  ∃ a, ok a ∧ V (g0 w) w 0 (f a) (.agg cs) := by
 obtain ⟨n, hn⟩ := h
 obtain ⟨a, h1, h2⟩ := ho n _ _ hn
 refine ⟨a, h1, ?_⟩
 rw [hf]
 exact h2.agg
theorem Xii {t : TypeId} {r : Reach} {b : Nat} {v : Value} (ht : P.underlying t = some .string) (h : Value.okWide P w r b t v) : v.cells.toList = [v] := by
 obtain ⟨s, rfl⟩ := okWide_string ht h; rfl
theorem XfV {k : IntKind} {t : TypeId} {r : Reach} {b : Nat} {v : Value} (ht : P.underlying t = some (.int k)) (h : Value.okWide P w r b t v) : v.cells.toList = [v] := by
 obtain ⟨n, rfl⟩ := okWide_int ht h; rfl
end Go.Pam
namespace Go.Pam
variable {env : Env} {fr : Fr} {σ : Nat → PV} {S : List SObj} {S0 : List SObj} {R : List Nat} {C : List (Nat × SObj)} {A : List (PV × Nat)} {W : List (PV × SObj)}
theorem Hp.new_lt {S' : List SObj} {i : Nat} {o : SObj} {C' : List (Nat × SObj)} {A' : List (PV × Nat)} {W' : List (PV × SObj)} (N : Hp S [] S' ((i, o) :: C') A' W') : S.length ≤ i := by
 rcases (N.cel _ List.mem_cons_self).1 with h | h
 ·exact h
 ·cases h
theorem Hp.after {S' : List SObj} {R' : List Nat} {C' : List (Nat × SObj)} {A' : List (PV × Nat)} {W' : List (PV × SObj)} (H : Hp S0 R S C A W) (N : Hp S R' S' C' A' W') (hC : ∀ p ∈ C, p.1 ∉ R') (hR : ∀ i ∈ R', S0.length ≤ i ∨ i ∈ R)
  (hA : ∀ q ∈ A, ∀ i, Xe1 q.1 = some i → i ∉ R') (hW : ∀ q ∈ W, ∀ i, Xde q.1 = some i → i ∉ R') : Hp S0 R S' C A W := by
 have hl := H.len
 have hn := N.len
 have keep : ∀ k, k < S.length → k ∉ R' → S'[k]? = S[k]? := fun k hk hr => N.old k hk hr
 refine ⟨by omega, fun k hk hr => ?_, fun p hp => ⟨(H.cel p hp).1, (keep p.1 (Xbs (H.cel p hp).2.1) (hC p hp)).trans (H.cel p hp).2.1, (H.cel p hp).2.2⟩, H.nod,
  fun q hq => ⟨(H.app q hq).1.keep fun id hid => keep id ((H.app q hq).1.lt hid).1 (hA q hq id hid), (H.app q hq).2⟩, H.dis,
  fun q hq id hid => ⟨(H.row q hq id hid).1, (keep id (Xbs (H.row q hq id hid).2.1) (hW q hq id hid)).trans (H.row q hq id hid).2.1, (H.row q hq id hid).2.2⟩, H.rdis⟩
 have : k ∉ R' := fun h => by
  rcases hR k h with h | h
  ·omega
  ·exact hr h
 exact (keep k (by omega) this).trans (H.old k hk hr)
theorem Hp.callNew {S' : List SObj} {i : Nat} {o : SObj} (H : Hp S0 R S C A W) (N : Hp S [] S' [(i, o)] [] []) : Hp S0 R S' ((i, o) :: C) A W := by
 have hi := N.new_lt
 have hl := H.len
 have M := H.after N (fun _ _ h => by cases h) (fun _ h => by cases h) (fun _ _ _ _ h => by cases h) (fun _ _ _ _ h => by cases h)
 refine { M with cel := fun p hp => ?_, nod := List.pairwise_cons.2 ⟨fun p hp => by have := Xbs (H.cel p hp).2.1; simp only; omega, H.nod⟩ }
 rcases List.mem_cons.1 hp with rfl | hp
 ·exact ⟨.inl (by simp only; omega), (N.cel _ List.mem_cons_self).2⟩
 ·exact M.cel p hp
/-! errors.Is of two errors that are numbers of one type -/
theorem Xhu {f : FuncId} {h : List PV → List SObj → Option (PV × List SObj × Bool)} {args : List PV} {r : PV × List SObj × Bool} (hi : env.intr f = some h) (hr : h args S = some r) : evw env f args S = some r := by
 refine XfN 1 fun k hk => ?_
 obtain ⟨j, rfl⟩ : ∃ j, k = j + 1 := ⟨k - 1, by omega⟩
 simp only [ev, hi, hr]
end Go.Pam
namespace Go.Pam
variable {env : Env} {fr : Fr} {σ : Nat → PV} {S : List SObj} {S0 : List SObj} {R : List Nat} {C : List (Nat × SObj)} {A : List (PV × Nat)} {W : List (PV × SObj)}
def WK (env : Env) (fr : Fr) (ops : List POp) (hist : List (List SObj)) (pend : List (TypeId × PV × PV)) (σ : Nat → PV) (S : List SObj) (e : Bool) (K : KS) : Prop :=
 Xch env.ctx pend S → ∃ σ' S' e', Xbh env.ctx (evw env) fr ops hist pend σ S e = some (σ', S', e') ∧ K σ' S' e'
variable {wr : Bool} {hist : List (List SObj)} {pend : List (TypeId × PV × PV)} {rest : List POp} {op : Op} {d : Option Nat} {e : Bool} {K : KS} {v : PV}
theorem Xa9 {ctx : Ctx} : Xch ctx [] S := fun q hq => by cases hq
theorem Xah {ctx : Ctx} {t : TypeId} {a : PV} (h : Xb2 ctx t a S = some v) (hp : Xch ctx pend S) : Xch ctx ((t, a, v) :: pend) S := by
 intro q hq
 rcases List.mem_cons.1 hq with rfl | hq
 ·exact h
 ·exact hp q hq
theorem Xl6 {p : List SObj → Prop} : ∀ T ∈ ([] : List (List SObj)), p T := fun T hT => by cases hT
theorem ld {ctx : Ctx} {t : TypeId} {id off : Nat} {cs : List PV} (hg : S[id]? = some (.cells cs)) (hp : Xbz ctx t cs off = some v) : Xb2 ctx t (.ptr id off) S = some v := by
 simp only [Xb2, hg, hp]
theorem WK.nil (h : K σ S e) : WK env fr [] hist pend σ S e K := fun _ => ⟨_, _, _, rfl, h⟩
theorem WK.go0 {t : Nat} {want b : Bool} (hb : σ t = .bool b) (hw : (b == want) = true)
  (h : WK env fr (⟨d, op, none, wr⟩ :: rest) hist pend σ S e K) : WK env fr (⟨d, op, some (t, want), wr⟩ :: rest) hist pend σ S e K := by
 intro hp
 obtain ⟨σ1, S1, e1, h1, h2⟩ := h hp
 refine ⟨σ1, S1, e1, ?_, h2⟩
 unfold Xbh at h1 ⊢
 simp only [XaE, hb, hw] at h1 ⊢
 exact h1
theorem WK.by {t : Nat} {want b : Bool} (hd : XaS fr.ntmps d = true) (hb : σ t = .bool b) (hw : (b == want) = false) (h : WK env fr rest hist pend (upd σ d (.tup [])) S e K) : WK env fr (⟨d, op, some (t, want), wr⟩ :: rest) hist pend σ S e K := by
 intro hp
 obtain ⟨σ1, S1, e1, h1, h2⟩ := h hp
 refine ⟨σ1, S1, e1, ?_, h2⟩
 unfold Xbh
 simp only [hd, if_true, XaE, hb, hw]
 exact h1
theorem WK.by0 {t : Nat} {want : Bool} (hd : XaS fr.ntmps d = true) (hb : σ t = .tup []) (h : WK env fr rest hist pend (upd σ d (.tup [])) S e K) : WK env fr (⟨d, op, some (t, want), wr⟩ :: rest) hist pend σ S e K := by
 intro hp
 obtain ⟨σ1, S1, e1, h1, h2⟩ := h hp
 refine ⟨σ1, S1, e1, ?_, h2⟩
 unfold Xbh
 simp only [hd, if_true, XaE, hb]
 exact h1
theorem WK.step {S' : List SObj} {e' : Bool} (hd : XaS fr.ntmps d = true) (hs : stF env fr σ S ⟨d, op, none, wr⟩ = some (v, S', e')) (hS : S' = S) (he : e' = false) (hc : Xba ⟨d, op, none, wr⟩ = false) (hi : XfA env.ctx σ ⟨d, op, none, wr⟩ = true)
  (h : WK env fr rest hist pend (upd σ d v) S e K) : WK env fr (⟨d, op, none, wr⟩ :: rest) hist pend σ S e K := by
 intro hp
 obtain ⟨σ1, S1, e1, h1, h2⟩ := h hp
 refine ⟨σ1, S1, e1, ?_, h2⟩
 unfold Xbh
 simp only [hd, if_true, XaE]
 unfold stF at hs
 rw [hs]
 simp only [hc, Bool.false_eq_true, if_false, XiN hS he, if_true, hi]
 exact h1
theorem Xcw {ctx : Ctx} {call : Xcm} : ∀ (l : List POp) (hist hist' : List (List SObj)) (pend : List (TypeId × PV × PV)) (σ : Nat → PV) (S : List SObj) (e : Bool) (r : (Nat → PV) × List SObj × Bool),
  Xbh ctx call fr l hist pend σ S e = some r → (∀ T ∈ hist', T ∈ hist ∨ T = S) → Xbh ctx call fr l hist' pend σ S e = some r
 | [], _, _, _, _, _, _, _, h, _ => h
 | p :: l, hist, hist', pend, σ, S, e, r, h, hh => by
  simp only [Xbh] at h ⊢
  split at h
  case isFalse => cases h
  rename_i hd
  simp only [hd, if_true]
  split at h
  ·cases h
  ·exact Xcw l hist hist' _ _ _ _ _ h hh
  ·split at h
   ·cases h
   rename_i v S' e' hs
   split at h
   ·rename_i hch
    split at h
    case isFalse => cases h
    rename_i hpp
    simp only [hch, if_true, if_pos hpp]
    refine Xcw l _ _ _ _ _ _ _ h fun T hT => ?_
    rcases List.mem_cons.1 hT with rfl | hT
    ·exact .inl List.mem_cons_self
    ·rcases hh T hT with h1 | rfl
     ·exact .inl (List.mem_cons_of_mem _ h1)
     ·exact .inl List.mem_cons_self
   ·rename_i hch
    simp only [if_neg hch]
    split at h
    case isFalse => cases h
    rename_i hsame
    simp only [hsame, if_true]
    split at h
    ·rename_i hin
     simp only [hin, if_true]
     exact Xcw l _ _ _ _ _ _ _ h hh
    ·rename_i hin
     simp only [if_neg hin]
     split at h
     case h_2 => cases h
     rename_i t a hlo
     split at h
     case isFalse => cases h
     rename_i hall
     have hop : ∃ x, p.op = .load t x ∧ opd σ x = a := by
      revert hlo
      generalize p.op = o
      intro hlo
      cases o <;> simp only [Xjg, reduceCtorEq] at hlo
      injection hlo with hlo; injection hlo with h1 h2
      subst h1
      exact ⟨_, rfl, h2⟩
     obtain ⟨x, hop, hx⟩ := hop
     have hwr : p.wr = false := by
      unfold Xba at hch
      rw [hop] at hch
      cases hw : p.wr with
      | false => rfl
      | true => rw [hw] at hch; exact absurd rfl hch
     have hv : Xb2 ctx t a S = some v := by
      unfold XaM at hs
      rw [hop, hwr] at hs
      simp only [Xa5, XbD, Bool.false_eq_true, if_false, XaL, hx] at hs
      cases hq : Xb2 ctx t a S with
      | none => rw [hq] at hs; cases hs
      | some y => rw [hq] at hs; simp at hs; rw [hs.1]
     have hall' : ∀ T ∈ hist', Xb2 ctx t a T = some v := by
      intro T hT
      rcases hh T hT with h1 | rfl
      ·exact hall T h1
      ·exact hv
     simp only [if_pos hall']
     exact Xcw l _ _ _ _ _ _ _ h hh
theorem WK.callP (hd : XaS fr.ntmps d = true) (hs : stF env fr σ S ⟨d, op, none, wr⟩ = some (v, S, false)) (hc : Xba ⟨d, op, none, wr⟩ = true)
  (h : WK env fr rest hist pend (upd σ d v) S (e || false) K) : WK env fr (⟨d, op, none, wr⟩ :: rest) hist pend σ S e K := by
 intro hp
 obtain ⟨σ1, S1, e1, h1, h2⟩ := h hp
 refine ⟨σ1, S1, e1, ?_, h2⟩
 unfold Xbh
 simp only [hd, if_true, XaE]
 unfold stF at hs
 rw [hs]
 simp only [hc, if_true, if_pos hp]
 refine Xcw _ _ _ _ _ _ _ _ h1 fun T hT => ?_
 rcases List.mem_cons.1 hT with rfl | hT
 ·exact .inr rfl
 ·exact .inl hT
theorem WK.turn {S' : List SObj} {e' : Bool} (hd : XaS fr.ntmps d = true) (hs : stF env fr σ S ⟨d, op, none, wr⟩ = some (v, S', e')) (hc : Xba ⟨d, op, none, wr⟩ = true)
  (h : Xch env.ctx pend S' ∧ WK env fr rest (S :: hist) pend (upd σ d v) S' (e || e') K) : WK env fr (⟨d, op, none, wr⟩ :: rest) hist pend σ S e K := by
 intro _
 obtain ⟨σ1, S1, e1, h1, h2⟩ := h.2 h.1
 refine ⟨σ1, S1, e1, ?_, h2⟩
 unfold Xbh
 simp only [hd, if_true, XaE]
 unfold stF at hs
 rw [hs]
 simp only [hc, if_true, if_pos h.1]
 exact h1
theorem WK.ex {P : PV → List SObj → Prop} (hd : XaS fr.ntmps d = true) (hs : ∃ v' S', stF env fr σ S ⟨d, op, none, wr⟩ = some (v', S', false) ∧ P v' S') (hc : Xba ⟨d, op, none, wr⟩ = true)
  (h : ∀ v' S', P v' S' → Xch env.ctx pend S' ∧ WK env fr rest (S :: hist) pend (upd σ d v') S' (e || false) K) : WK env fr (⟨d, op, none, wr⟩ :: rest) hist pend σ S e K := by
 obtain ⟨v', S', h1, h2⟩ := hs
 exact WK.turn hd h1 hc (h _ _ h2)
theorem WK.callR (j : Nat) {f : FuncId} {o : Operand} {args : Array Operand} {ts : Array TypeId} {cap vs cs cs' : List PV} {id : Nat} (hd : XaS fr.ntmps d = true)
  (hf : opd σ o = .fn (.func f) [] cap) (ha : args.toList.map (opd σ) ++ cap = vs) (hz : XbD (Xa5 env.ctx σ (.call ⟨.value o, args, ts⟩)) σ S = (σ, S)) (H : Hp S0 R S C A W) (hj : C[j]? = some (id, .cells cs)) (hc : evw env f vs S = some (v, S.set id (.cells cs'), false))
  (h : ∀ S', Hp S0 R S' (C.set j (id, .cells cs')) A W → Xch env.ctx pend S' ∧ WK env fr rest (S :: hist) pend (upd σ d v) S' (e || false) K) : WK env fr (⟨d, .call ⟨.value o, args, ts⟩, none, false⟩ :: rest) hist pend σ S e K :=
 WK.turn hd (nz hz (XcA hf ha hc)) rfl (h _ (H.set j hj cs'))
theorem WK.load {t : TypeId} {a : Operand} {id off : Nat} (hd : XaS fr.ntmps d = true) (ha : opd σ a = .ptr id off) (hv : Xb2 env.ctx t (.ptr id off) S = some v) (hh : ∀ T ∈ hist, Xb2 env.ctx t (.ptr id off) T = some v)
  (h : WK env fr rest hist ((t, .ptr id off, v) :: pend) (upd σ d v) S e K) : WK env fr (⟨d, .load t a, none, false⟩ :: rest) hist pend σ S e K := by
 intro hp
 obtain ⟨σ1, S1, e1, h1, h2⟩ := h (Xah hv hp)
 refine ⟨σ1, S1, e1, ?_, h2⟩
 unfold Xbh
 simp only [hd, if_true, XaE, XaM, Xa5, XbD, XaL, ha, hv, Option.map_some, Xba, XhJ, Bool.or_false, Bool.false_eq_true, if_false, XeO, Bool.and_true, if_true, XfA, Xee, Bool.not_false, Bool.true_and, Bool.false_and, Xjg, if_pos hh]
 exact h1
theorem WC.drawC {hd tl : List POp} {K : KX} (h : WK env fr hd [] [] σ S e fun σ' S' e' => WO env fr tl σ' S' e' fun σ' S' e' => K .normal σ' S' e') : WC env fr (.drawC hd tl) σ S e K := by
 obtain ⟨σ1, S1, e1, h1, σ2, S2, e2, h2, h3⟩ := h Xa9
 refine ⟨_, _, _, _, ?_, h3⟩
 simp only [Xcj, h1, h2]
end Go.Pam
namespace Go.Pam
variable {env : Env} {fr : Fr} {σ : Nat → PV} {S : List SObj} {S0 : List SObj} {R : List Nat} {C : List (Nat × SObj)} {A : List (PV × Nat)} {W : List (PV × SObj)}
variable {α : Type} {f : α → PV} {sz : Nat} {fz : Bool} {x : Sl α} {v : PV}
def Xeo {α : Type} (f : α → PV) (sz : Nat) (fz : Bool) (x : Sl α) : SObj := .row (x.l.map f) sz fz
def IsW {α : Type} (x : Sl α) (v : PV) : Prop := match x with
 | none => v = .nils
 | some l => (v = .emp ∧ l = []) ∨ ∃ id, v = .rsl id l.length
theorem IsW.upd {x y : Sl α} (h : IsW x v) (hn : x.isNil = y.isNil) (hl : x.l.length = y.l.length) : IsW y v := by
 cases x with
 | none => cases y with
  | none => exact h
  | some l => cases hn
 | some l => cases y with
  | none => cases hn
  | some m =>
   simp only [Sl.l, Option.getD_some] at hl
   rcases h with ⟨h1, rfl⟩ | ⟨id, h1⟩
   ·exact .inl ⟨h1, List.length_eq_zero_iff.1 hl.symm⟩
   ·exact .inr ⟨id, by rw [← hl]; exact h1⟩
theorem Xjt {a : Operand} {t e : TypeId} (ho : opd σ a = v) (h : IsW x v) (ht : (env.ctx.ty t).map (·.und) = some (.slice e)) :
  stp env fr σ S (.call ⟨.builtin .len, #[a], #[t]⟩) = some (.int .i64 (Sl.len x), S, false) := by
 cases hti : env.ctx.ty t with
 | none => rw [hti] at ht; cases ht
 | some ti =>
  rw [hti] at ht
  have hu : ti.und = .slice e := by simpa using ht
  cases x with
  | none => cases h; simp [stp, XaL, Xct, ho, Xf9, hti, hu, Sl.len, Sl.l]
  | some l => rcases h with ⟨rfl, rfl⟩ | ⟨id, rfl⟩ <;> simp [stp, XaL, Xct, ho, Xf9, hti, hu, Sl.len, Sl.l]
theorem IsW.at {i : Int} {y : α} (h : IsW x v) (hy : Sl.at? x i = some y) : ∃ id, v = .rsl id x.l.length ∧ 0 ≤ i ∧ i < x.l.length ∧ x.l[i.toNat]? = some y := by
  unfold Sl.at? at hy
  split at hy
  case isFalse => cases hy
  rename_i h0
  have hlt : i.toNat < x.l.length := (List.getElem?_eq_some_iff.1 hy).1
  cases x with
  | none => simp [Sl.l] at hy
  | some l => rcases h with ⟨_, rfl⟩ | ⟨id, rfl⟩
              · simp [Sl.l] at hy
              · exact ⟨id, rfl, h0, by omega, hy⟩
theorem Xhv {a i : Operand} {t e : TypeId} {k : IntKind} {n : Int} {y : α} {id : Nat} (ho : opd σ a = v) (h : IsW x v) (hi : opd σ i = .int k n)
  (ht : (env.ctx.ty t).map (·.und) = some (.slice e)) (he : (env.ctx.ty e).map (·.size) = some sz) (hy : Sl.at? x n = some y) (hid : Xde v = some id) :
  stp env fr σ S (.indexAddr t a i) = some (.ptr id (n.toNat * sz), S, false) := by
 obtain ⟨id', rfl, h0, h1, _⟩ := h.at hy
 injection hid with hid; subst hid
 cases hti : env.ctx.ty t with
 | none => rw [hti] at ht; cases ht
 | some ti =>
  rw [hti] at ht
  have hu : ti.und = .slice e := by simpa using ht
  cases hei : env.ctx.ty e with
  | none => rw [hei] at he; cases he
  | some ei =>
   rw [hei] at he
   have hs : ei.size = sz := by simpa using he
   simp only [stp, XaL, hi, ho, XbW, hti, hu, hei]
   rw [if_pos ⟨h0, h1⟩, hs]
   rfl
theorem Xmj {i : Int} {y : α} (h : Sl.at? x i = some y) {n : Nat} (hn : n = (Int.toNat i)) : (x.l.map f)[n]? = some (f y) := by
 subst hn
 unfold Sl.at? at h
 split at h
 ·rw [List.getElem?_map, h]; rfl
 ·cases h
theorem Xmk {i off sz : Nat} (h : off < sz) : (i * sz + off) / sz = i ∧ (i * sz + off) % sz = off := by
 have hs : 0 < sz := by omega
 constructor
 ·rw [Nat.mul_comm, Nat.mul_add_div hs, Nat.div_eq_of_lt h]; rfl
 ·rw [Nat.mul_comm, Nat.mul_add_mod, Nat.mod_eq_of_lt h]
theorem Xua {ctx : Ctx} {t : TypeId} {id off : Nat} {n : Int} {y : α} {u : PV} (hg : S[id]? = some (Xeo f sz fz x)) (hy : Sl.at? x n = some y) (ho : off < sz) (hp : Xbz ctx t (f y).cells off = some u) :
  Xb2 ctx t (.ptr id (n.toNat * sz + off)) S = some u := by
 obtain ⟨h1, h2⟩ := Xmk (i := n.toNat) ho
 simp only [Xb2, hg, Xeo, h1, h2, Xmj (f := f) hy rfl, Option.bind_some, hp]
theorem XkA {t : TypeId} {a : Operand} {id off : Nat} {n : Int} {y : α} {u : PV} (ha : opd σ a = .ptr id (n.toNat * sz + off)) (hg : S[id]? = some (Xeo f sz fz x)) (hy : Sl.at? x n = some y) (ho : off < sz) (hp : Xbz env.ctx t (f y).cells off = some u) :
  stp env fr σ S (.load t a) = some (u, S, false) := by
 simp only [stp, XaL, ha, Xua hg hy ho hp, Option.map_some]
def Sl.set (x : Sl α) (i : Int) (y : α) : Sl α := x.map fun l => l.set i.toNat y
theorem Sl.set_l (x : Sl α) (i : Int) (y : α) : (x.set i y).l = x.l.set i.toNat y := by cases x <;> rfl
theorem IsW.set (h : IsW x v) (i : Int) (y : α) : IsW (x.set i y) v := h.upd (by cases x <;> rfl) (by rw [Sl.set_l, List.length_set])
theorem Xl7 (i : Int) (y : α) : Xeo f sz fz (x.set i y) = .row ((x.l.map f).set i.toNat (f y)) sz fz := by
 unfold Xeo; rw [Sl.set_l, List.map_set]
theorem Xke {t : TypeId} {a b : Operand} {id off ts : Nat} {n : Int} {y y' : α} {u : PV} {xc : List PV} {e : Bool} (ha : opd σ a = .ptr id (n.toNat * sz + off)) (hb : opd σ b = u) (hg : S[id]? = some (Xeo f sz false x)) (hy : Sl.at? x n = some y)
  (ht : (env.ctx.ty t).map (·.size) = some ts) (hs : u.storable = true) (hc : u.strip.cells = xc) (hl : xc.length = ts) (hfit : off + ts ≤ sz) (hpos : off < sz) (hz : Xdl (f y) off xc = some (f y')) (he : (decide (id < fr.base) && !u.clean) = e) :
  stp env fr σ S (.store t a b) = some (.tup [], S.set id (Xeo f sz false (x.set n y')), e) := by
 cases hti : env.ctx.ty t with
 | none => rw [hti] at ht; cases ht
 | some ti =>
  rw [hti] at ht
  have hts : ti.size = ts := by simpa using ht
  subst hc hts
  obtain ⟨h1, h2⟩ := Xmk (i := n.toNat) hpos
  have hlen : u.cells.length = ti.size := by rw [← Xbn]; exact hl
  have hn : ¬ (u.storable = false ∨ u.cells.length ≠ ti.size ∨ off + ti.size > sz) := by
   rintro (h | h | h)
   ·rw [hs] at h; cases h
   ·exact h hlen
   ·omega
  have hr := Xmj (f := f) hy rfl
  simp only [Xeo] at hg
  simp only [stp, XaL, ha, hb, Xed, hg, hti, h1, h2, if_neg hn, hr, Option.bind_some, hz, Option.map_some, he, Xl7]
theorem WO.storeW (j : Nat) {t : TypeId} {a b : Operand} {d : Option Nat} {rest : List POp} {σ1 : Nat → PV} {S1 : List SObj} {id off ts : Nat} {n : Int} {y y' : α} {u : PV} {xc : List PV} {e e' : Bool} {K : KS} (hd : XaS fr.ntmps d = true)
  (hz : XbD (Xa5 env.ctx σ (.store t a b)) σ S = (σ1, S1)) (H : Hp S0 R S1 C A W) (hj : W[j]? = some (v, Xeo f sz false x)) (hid : Xde v = some id)
  (ha : opd σ1 a = .ptr id (n.toNat * sz + off)) (hb : opd σ1 b = u) (hy : Sl.at? x n = some y)
  (ht : (env.ctx.ty t).map (·.size) = some ts) (hs : u.storable = true) (hc : u.strip.cells = xc) (hl : xc.length = ts) (hfit : off + ts ≤ sz) (hpos : off < sz) (hp : Xdl (f y) off xc = some (f y')) (he : (decide (id < fr.base) && !u.clean) = e')
  (h : ∀ S', Hp S0 R S' C A (W.set j (v, Xeo f sz false (x.set n y'))) → WO env fr rest (upd σ d (.tup [])) S' (e || e') K) : WO env fr (⟨d, .store t a b, none, false⟩ :: rest) σ S e K :=
 WO.step hd (yz hz (Xke ha hb (H.getW j hj hid) hy ht hs hc hl hfit hpos hp he)) (h _ (H.setW j hj hid _ rfl))
/-! How they are made -/
def Sl.emp (x : Sl α) : Sl α := x.map fun _ => []
theorem Xju (H : Hp S0 R S C A W) (j : Nat) {y z : Sl α} {w : PV} {a b : Operand} {t u e : TypeId} {ei : TyI} (hj : W[j]? = some (v, Xeo f ei.size false x))
    (ho : opd σ a = v) (hx : IsW x v) (hb : opd σ b = w) (hw : Xa8 f y w)
    (ht : (env.ctx.ty t).map (·.und) = some (.slice e)) (hu : (env.ctx.ty u).map (·.und) = some (.slice e)) (he : env.ctx.ty e = some ei)
    (hok : (decide (ei.size ≠ 0) && decide (ei.bytes ≠ 0) && ei.zero.storable && decide (ei.zero.cells.length = ei.size)) = true)
    (hc : ∀ a, (f a).cells.length = ei.size) (hz : Sl.app? ei.bytes x y.l = some z) :
    ∃ v' S', Xbu env.ctx σ S (.call ⟨.builtin .append, #[a, b], #[t, u]⟩) = some (v', S') ∧ IsW z v' ∧ Hp S0 R S' C A (W.set j (v', Xeo f ei.size false z)) := by
  simp only [Bool.and_eq_true, decide_eq_true_eq] at hok
  obtain ⟨⟨⟨k1, k2⟩, k3⟩, k4⟩ := hok
  cases hti : env.ctx.ty t with
  | none => rw [hti] at ht; cases ht
  | some ti =>
  rw [hti] at ht
  have ht' : ti.und = .slice e := by simpa using ht
  cases hui : env.ctx.ty u with
  | none => rw [hui] at hu; cases hu
  | some ui =>
  rw [hui] at hu
  have hu' : ui.und = .slice e := by simpa using hu
  unfold Sl.app? at hz
  split at hz
  case isFalse => cases hz
  rename_i hfit
  injection hz with hz
  have hlist : Xd1 w = some (y.l.map f) := by
    cases y with
    | none => cases hw; rfl
    | some l => obtain ⟨tag, rfl⟩ := hw; rfl
  have setself : ∀ (q : PV × SObj), W[j]? = some q → W.set j q = W := by
    intro q hq
    apply List.ext_getElem?
    intro i
    rw [List.getElem?_set]
    split
    · rename_i hi; subst hi; rw [hq]; split
      · rfl
      · have := (List.getElem?_eq_some_iff.1 hq).1; omega
    · rfl
  cases hemp : y.l.isEmpty with
  | true =>
    rw [hemp] at hz
    simp only [if_true] at hz
    subst hz
    have hnil : y.l = [] := by simpa using hemp
    refine ⟨v, S, ?_, hx, by rw [setself _ hj]; exact H⟩
    have happ : ∀ s, Xf7 s = true → Xbi env.ctx #[t, u] s w S = some (s, S) := by
      intro s hs
      simp only [Xbi, List.getElem?_toArray, List.getElem?_cons_zero, List.getElem?_cons_succ, hti, hui, hlist, ht', hu', he]
      simp [hnil, hs]
    simp only [Xbu, List.map_cons, List.map_nil, ho, hb]
    cases x with
    | none => cases hx; simp only [hlist, hnil, List.map_nil]; exact happ _ rfl
    | some l => rcases hx with ⟨rfl, rfl⟩ | ⟨id, rfl⟩
                · simp only [hlist, hnil, List.map_nil]; exact happ _ rfl
                · exact happ _ rfl
  | false =>
    rw [hemp] at hz
    simp only [Bool.false_eq_true, if_false] at hz
    subst hz
    have hne : (y.l.map f).isEmpty = false := by simpa using hemp
    have hne' : y.l.map f ≠ [] := by simpa using hemp
    have hsz := Xcv hc y.l
    have cond : ¬ (Xbg ei.size (y.l.map f) = false ∨ ei.size = 0 ∨ ei.bytes = 0 ∨ ei.zero.storable = false ∨ ei.zero.cells.length ≠ ei.size) := by
      rw [hsz]; simp [k1, k2, k3, k4]
    have happ : ∀ s, Xbi env.ctx #[t, u] s w S = Xc3 ei s (y.l.map f) S := by
      intro s
      simp only [Xbi, List.getElem?_toArray, List.getElem?_cons_zero, List.getElem?_cons_succ, hti, hui, hlist, ht', hu', he, hne, Bool.false_eq_true, if_false]
      rw [if_neg cond]
      rfl
    -- a new row
    have born : x.l = [] → Xde v = none → Xbu.bornApp env.ctx #[t, u] w S = some (.rsl S.length y.l.length, S ++ [.row (y.l.map f) ei.size false]) ∧
        Hp S0 R (S ++ [.row (y.l.map f) ei.size false]) C A (W.set j (.rsl S.length y.l.length, Xeo f ei.size false (some (x.l ++ y.l)))) := by
      intro hl hv
      have hfit' : (y.l.map f).length * ei.bytes ≤ 2 ^ 47 := by have h := hfit; rw [hl] at h; simpa using h
      have e0 : Xeo f ei.size false (some (x.l ++ y.l)) = .row (y.l.map f) ei.size false := by
        show SObj.row ((x.l ++ y.l).map f) ei.size false = _
        rw [hl]; rfl
      rw [e0]
      refine ⟨?_, ?_⟩
      · unfold Xbu.bornApp
        rw [happ]
        simp only [Xc3, hfit', if_true]
        simp
      · have h1 := H.more (.row (y.l.map f) ei.size false)
        have h2 := H.addW y.l.length (.row (y.l.map f) ei.size false) rfl
        refine { h1 with row := fun q hq id hid => ?_, rdis := XgO H.rdis (x := (PV.rsl S.length y.l.length, SObj.row (y.l.map f) ei.size false)) fun m hm k q _ hk he2 => ?_ }
        · rcases Xcr hq with rfl | ⟨k, hne, hk⟩
          · have := h2.row (.rsl S.length y.l.length, .row (y.l.map f) ei.size false) List.mem_cons_self id hid
            exact this
          · exact h1.row q (List.mem_of_getElem? hk) id hid
        · injection hm with hm; subst hm
          have := Xbs (H.row q (List.mem_of_getElem? hk) _ he2).2.1
          omega
    simp only [Xbu, List.map_cons, List.map_nil, ho, hb]
    cases x with
    | none =>
      cases hx
      obtain ⟨b1, b2⟩ := born rfl rfl
      refine ⟨_, _, ?_, .inr ⟨S.length, by simp [Sl.l]⟩, b2⟩
      simp only [hlist]
      split
      · rename_i h; injection h with h; exact absurd h hne'
      · exact b1
    | some l =>
      rcases hx with ⟨rfl, rfl⟩ | ⟨id, rfl⟩
      · obtain ⟨b1, b2⟩ := born rfl rfl
        refine ⟨_, _, ?_, .inr ⟨S.length, by simp [Sl.l]⟩, b2⟩
        simp only [hlist]
        split
        · rename_i h; injection h with h; exact absurd h hne'
        · exact b1
      · have hg := H.getW j hj (id := id) rfl
        have hfit : (l.length + y.l.length) * ei.bytes ≤ 2 ^ 47 := hfit
        refine ⟨.rsl S.length (l.length + y.l.length), S.set id .dead ++ [.row (l.map f ++ y.l.map f) ei.size false], ?_, .inr ⟨S.length, by simp [Sl.l]⟩, ?_⟩
        · simp only [happ, Xc3, hg, Xeo, Sl.l, Option.getD_some]
          rw [if_pos ⟨(List.length_map _).symm, trivial, by rw [List.length_map, List.length_map]; exact hfit⟩, List.length_map, List.length_map]
        · have := H.growW j hj (id := id) rfl (l.length + y.l.length) (.row (l.map f ++ y.l.map f) ei.size false) rfl
          have e0 : Xeo f ei.size false (some (Sl.l (some l : Sl α) ++ y.l)) = .row (l.map f ++ y.l.map f) ei.size false := by
            show SObj.row ((l ++ y.l).map f) ei.size false = _
            rw [List.map_append]
          rw [e0]; exact this
theorem Xkf {s : Str} {a : Operand} {st dt e : TypeId} (ho : opd σ a = .str s) (hs : (env.ctx.ty st).map (·.und) = some .string) (hd : (env.ctx.ty dt).map (·.und) = some (.slice e)) (he : (env.ctx.ty e).map (·.und) = some (.int .u8)) (H : Hp S0 R S C A W) :
  ∃ v' S', Xbu env.ctx σ S (.convert st dt a) = some (v', S') ∧ IsW (Str.bytes s) v' ∧ Hp S0 R S' C A ((v', Xeo (eI .u8) 1 false (Str.bytes s)) :: W) := by
 cases h1 : env.ctx.ty st with
 | none => rw [h1] at hs; cases hs
 | some si =>
 rw [h1] at hs
 have hs' : si.und = .string := by simpa using hs
 cases h2 : env.ctx.ty dt with
 | none => rw [h2] at hd; cases hd
 | some di =>
 rw [h2] at hd
 have hd' : di.und = .slice e := by simpa using hd
 cases h3 : env.ctx.ty e with
 | none => rw [h3] at he; cases he
 | some ei =>
 rw [h3] at he
 have he' : ei.und = .int .u8 := by simpa using he
 have := H.addW s.length (.row (s.map fun b => PV.int .u8 b.toNat) 1 false) rfl
 refine ⟨.rsl S.length s.length, S ++ [.row (s.map fun b => PV.int .u8 b.toNat) 1 false], ?_, .inr ⟨S.length, by simp [Str.bytes]⟩, ?_⟩
 ·simp [Xbu, ho, Xbx, h1, h2, hs', hd', h3, he']
 ·simpa [Xeo, Sl.l, Str.bytes, Function.comp_def] using this
/-! How they become lists -/
theorem IsW.frz (H : Hp S0 R S C A W) (j : Nat) (hj : W[j]? = some (v, Xeo f sz fz x)) (hx : IsW x v) :
    ∃ S', Xi7 v S = (Xar f x, S') ∧ Hp S0 R S' C A (W.set j (v, Xeo f sz true x)) := by
  cases hr : Xde v with
  | none =>
    have h1 : Xi7 v S = (Xar f x, S) := by
      cases x with
      | none => cases hx; rfl
      | some l => rcases hx with ⟨rfl, rfl⟩ | ⟨id, rfl⟩
                  · rfl
                  · cases hr
    refine ⟨S, h1, ?_⟩
    refine { H with row := fun q hq id hid => ?_, rdis := XgO H.rdis (x := (v, Xeo f sz true x)) fun m hm k q _ hk he2 => by rw [hr] at hm; cases hm }
    rcases Xcr hq with rfl | ⟨k, hne, hk⟩
    · rw [hr] at hid; cases hid
    · exact H.row q (List.mem_of_getElem? hk) id hid
  | some id =>
    have hg := H.getW j hj hr
    cases x with
    | none => cases hx; cases hr
    | some l => rcases hx with ⟨rfl, rfl⟩ | ⟨id', rfl⟩
                · cases hr
                · injection hr with hr; subst hr
                  refine ⟨S.set id' (Xeo f sz true (some l)), ?_, H.setW j hj rfl _ rfl⟩
                  unfold Xi7 Xg5
                  simp only [hg, Xeo, Sl.l, Option.getD_some, List.length_map, if_true]
                  rfl
theorem IsW.id {i : Int} {y : α} (h : IsW x v) (hy : Sl.at? x i = some y) : ∃ id, Xde v = some id := by
 obtain ⟨id, h1, _⟩ := h.at hy
 exact ⟨id, by rw [h1]; rfl⟩
theorem Xl8 {t : Nat} : upd σ (some t) (σ t) = σ := by
 funext i; simp only [upd]; split
 ·rename_i h; rw [h]
 ·rfl
theorem fz_W {t : Nat} {v' : PV} {S' : List SObj} {xs : List Operand} {r : (Nat → PV) × List SObj} (h : Xi7 (σ t) S = (v', S')) (hs : XbD xs (upd σ (some t) v') S' = r) : XbD (.tmp t :: xs) σ S = r := by
 simp only [XbD]
 unfold Xi7 at h
 cases hq : Xg5 (σ t) S with
 | none =>
  rw [hq] at h
  injection h with h1 h2
  rw [← h1, Xl8, ← h2] at hs
  exact hs
 | some q => rw [hq] at h; simp only [Option.getD_some] at h; subst h; exact hs
theorem Xaw {t : Nat} {xs : List Operand} {r : (Nat → PV) × List SObj} (h : Xg5 (σ t) S = none) (hs : XbD xs σ S = r) : XbD (.tmp t :: xs) σ S = r := by
 simp only [XbD, h]; exact hs
theorem XmI {y : Operand} {xs : List Operand} {r : (Nat → PV) × List SObj} (h : ∀ t, y ≠ .tmp t) (hs : XbD xs σ S = r) : XbD (y :: xs) σ S = r := by
 cases y with
 | tmp t => exact absurd rfl (h t)
 | const v => exact hs
 | global i => exact hs
 | func f => exact hs
theorem fl_W {u u' : PV} {S' S'' : List SObj} {vs vs' : List PV} (h : Xi7 u S = (u', S')) (hs : Xer vs S' = (vs', S'')) : Xer (u :: vs) S = (u' :: vs', S'') := by
 simp only [Xer, h, hs]
theorem Xjv {u : PV} {S'' : List SObj} {vs vs' : List PV} (h : Xg5 u S = none) (hs : Xer vs S = (vs', S'')) : Xer (u :: vs) S = (u :: vs', S'') := by
 have h1 : Xi7 u S = (u, S) := by unfold Xi7; rw [h]; rfl
 exact fl_W h1 hs
theorem Xa8.frz {u : PV} (h : Xa8 f x u) : Xg5 u S = none := by
 cases x with
 | none => cases h; rfl
 | some l => obtain ⟨tag, rfl⟩ := h; rfl
theorem Xa8.notRow {u : PV} (h : Xa8 f x u) : notRow u = true := by
 cases x with
 | none => cases h; rfl
 | some l => obtain ⟨tag, rfl⟩ := h; rfl
/-! A function that hands on a row as such -/
theorem bzx {op : Op} {d : Option Nat} {g : Option (Nat × Bool)} {σ1 : Nat → PV} {S1 : List SObj} {P : PV → List SObj → Prop} (hz : XbD (Xa5 env.ctx σ op) σ S = (σ1, S1)) (hs : ∃ v' S', Xbu env.ctx σ1 S1 op = some (v', S') ∧ P v' S') (hc : XeG op = none := by rfl) :
  ∃ v' S', stF env fr σ S ⟨d, op, g, true⟩ = some (v', S', false) ∧ P v' S' := by
 obtain ⟨v', S', h1, h2⟩ := hs
 exact ⟨v', S', bz hz h1 hc, h2⟩
theorem bzn {op : Op} {d : Option Nat} {g : Option (Nat × Bool)} {P : PV → List SObj → Prop} (hz : XbD (Xa5 env.ctx σ op) σ S = (σ, S)) (hs : ∃ v' S', Xbu env.ctx σ S op = some (v', S') ∧ P v' S') (hc : XeG op = none := by rfl) :
  ∃ v' S', stF env fr σ S ⟨d, op, g, true⟩ = some (v', S', false) ∧ P v' S' := bzx hz hs hc
end Go.Pam
namespace Go.Pam
variable {env : Env} {fr : Fr} {σ : Nat → PV} {S : List SObj} {S0 : List SObj} {R : List Nat} {C : List (Nat × SObj)} {A : List (PV × Nat)} {W : List (PV × SObj)}
theorem Xkg {α : Type} {f : α → PV} {ys : List α} {t e : TypeId} {n : Nat} {ps : Array (Nat × Operand)} {ei : TyI} (hs : stp env fr σ S (.buildSlice t n ps) = some (.lst (ys.map f) .full, S, false))
  (ht : (env.ctx.ty t).map (·.und) = some (.slice e)) (he : env.ctx.ty e = some ei) (H : Hp S0 R S C A W) :
  ∃ v' S', Xbu env.ctx σ S (.buildSlice t n ps) = some (v', S') ∧ IsW (some ys) v' ∧ Hp S0 R S' C A ((v', Xeo f ei.size false (some ys)) :: W) := by
 cases hti : env.ctx.ty t with
 | none => rw [hti] at ht; cases ht
 | some ti =>
 rw [hti] at ht
 have ht' : ti.und = .slice e := by simpa using ht
 have hb : Xbk env.ctx t n (ps.toList.map fun p => (p.1, opd σ p.2)) = some (.lst (ys.map f) .full) := by
  simp only [stp, XaL] at hs
  cases hq : Xbk env.ctx t n (ps.toList.map fun p => (p.1, opd σ p.2)) with
  | none => rw [hq] at hs; cases hs
  | some y => rw [hq] at hs; simp at hs; rw [hs]
 refine ⟨.rsl S.length ys.length, S ++ [.row (ys.map f) ei.size false], ?_, .inr ⟨S.length, rfl⟩, H.addW ys.length _ rfl⟩
 simp only [Xbu, hti, ht', he, hb, List.length_map]
/-! Arrays of their own -/
def XiT {α : Type} (n : Nat) (x : Sl α) (v : PV) : Prop := (∃ id, v = .ptr id 0) ∧ x.l.length = n
variable {α : Type} {f : α → PV} {sz n : Nat} {x : Sl α} {v : PV}
theorem XiT.id (h : XiT n x v) : ∃ id, Xde v = some id := by
 obtain ⟨⟨id, rfl⟩, _⟩ := h
 exact ⟨id, rfl⟩
theorem XiT.frz (h : XiT n x v) : Xg5 v S = none := by
 obtain ⟨⟨id, rfl⟩, _⟩ := h
 rfl
theorem XiT.set (h : XiT n x v) (i : Int) (y : α) : XiT n (x.set i y) v := ⟨h.1, by rw [Sl.set_l, List.length_set]; exact h.2⟩
end Go.Pam
namespace Go.Pam
variable {env : Env} {fr : Fr} {σ : Nat → PV} {S : List SObj} {S0 : List SObj} {R : List Nat} {C : List (Nat × SObj)} {A : List (PV × Nat)} {W : List (PV × SObj)}
/-! Whether something older has been told of something newer plays no part in what is done -/
end Go.Pam
namespace Go.Pam
open Go.RowKit
variable {S : List SObj} {w w' : World} {g : G} {base : Nat} {bd : Nat → Nat}
end Go.Pam
namespace Go.Pam
open Go.RowKit
/-! What a method does to the memory -/
/-! The handlers -/
section
variable {P : Program} {S : List SObj} {w w' : World} {g : G} {base : Nat} {bd : Nat → Nat}
theorem arg2 {args : List PV} {cargs : Array Value} {x y : PV} (ha : args = [x, y]) (hl : args.length = cargs.size) (hV : ∀ (i : Nat) (c : PV), args[i]? = some c → V g w S.length c (cargs.getD i undef)) : ∃ a b, cargs = #[a, b] ∧ V g w S.length x a ∧ V g w S.length y b := by
 subst ha
 match cargs, hl with
 | ⟨[a, b]⟩, _ => exact ⟨a, b, rfl, hV 0 x rfl, hV 1 y rfl⟩
end
end Go.Pam
