/- Soundness: operations, regions, bodies, calls. -/
import Derived.Test.YthkjepoaddfoiaaPamB
namespace Go.Pam
set_option linter.unusedVariables false
set_option linter.unusedSimpArgs false
open Go.RowKit

structure FnOk (P : Program) (f : FuncId) (pf : PFn) : Prop where
  ok : ∃ fn c m, P.funcs[f]? = some fn ∧ fn.body = some c ∧ compile m c = some pf.body ∧ fn.ntmps = pf.ntmps ∧ fn.results.toList = pf.results ∧ fn.name ≠ "runtime.NumGoroutine"

def CallOk (P : Program) (call : Call') : Prop :=
  ∀ (f : FuncId) (args : List PV) (S : List SObj) (v : PV) (S' : List SObj) (e : Bool), call f args S = some (v, S', e) →
    ∀ (w : World) (g : G) (base : Nat) (bd : Nat → Nat) (cargs : Array Value), R S w g base bd → args.length = cargs.size → (∀ (i : Nat) (c : PV), args[i]? = some c → V g w S.length c (cargs.getD i undef)) →
      (∃ fn, P.funcs[f]? = some fn ∧ fn.body.isNone = false ∧ fn.name ≠ "runtime.NumGoroutine") ∧
      Calls P f cargs w (fun en w' => ∃ rv, en = .returned rv ∧ Good base bd S g w v S' e rv w')

theorem CallOk.run {P : Program} {f : FuncId} {cargs : Array Value} {w : World} (h : ∃ fn, P.funcs[f]? = some fn ∧ fn.body.isNone = false ∧ fn.name ≠ "runtime.NumGoroutine") :
    (callFunc f cargs).run P w = .ok (.enter f cargs) w := by
  obtain ⟨fn, h1, h2, h3⟩ := h
  simp only [callFunc, Sem.run_bind, run_program, Result.andThen_ok, h1]
  rw [if_neg (by simpa using h3), if_neg (by simp only [h2]; simp)]
  rfl

section
variable {P : Program} {ctx : Ctx} {call : Call'} {S : List SObj} {g : G} {w : World} {base base' : Nat} {bd : Nat → Nat} {σ : Nat → PV} {a : Act}

theorem opds {g : G} {w : World} {n : Nat} (hs : Slots g w n σ a.tmps) (xs : Array Operand) : (xs.toList.map (opd σ)).length = (xs.map a.eval).size ∧
    ∀ (i : Nat) (c : PV), (xs.toList.map (opd σ))[i]? = some c → V g w n c ((xs.map a.eval).getD i undef) := by
  refine ⟨by simp, fun i c hi => ?_⟩
  rw [List.getElem?_map] at hi
  rw [Array.getD_eq_getD_getElem?, Array.getElem?_map]
  rw [Array.getElem?_toList] at hi
  cases hx : xs[i]? with
  | none => simp [hx] at hi
  | some x =>
    simp [hx] at hi; subst hi
    exact opd_sound hs x

theorem parts_sound {g : G} {w : World} {n : Nat} (hs : Slots g w n σ a.tmps) : ∀ (ps : List (Nat × Operand)), Parts g w n (ps.map fun p => (p.1, opd σ p.2)) (ps.map fun p => (p.1, a.eval p.2))
  | [] => trivial
  | p :: ps => ⟨rfl, opd_sound hs p.2, parts_sound hs ps⟩

def OpOk (P : Program) (o : Oper) (a : Act) (w : World) (Post : Value → World → Prop) : Prop :=
  ∀ (next : Act → World → Prop) (Q : Exit → Act → World → Prop), (∀ v w', Post v w' → next (a.put o.dst v) w') → o.wp P a w next Q

theorem OpOk.value {o : Oper} {v : Value} {w' : World} {Post : Value → World → Prop} (h : (execOp a.eval o).run P w = .ok (.value v) w') (hp : Post v w') : OpOk P o a w Post := by
  intro next Q hn
  unfold Oper.wp
  rw [h]
  exact hn v w' hp

theorem OpOk.skip {o : Oper} {w' : World} {Post : Value → World → Prop} (h : (execOp a.eval o).run P w = .ok .skip w') (hp : Post undef w') : OpOk P o a w Post := by
  intro next Q hn
  unfold Oper.wp
  rw [h]
  exact hn undef w' hp

theorem OpOk.enter {o : Oper} {f : FuncId} {args : Array Value} {w' : World} {Post : Value → World → Prop} (h : (execOp a.eval o).run P w = .ok (.enter f args) w')
    (hp : Calls P f args w' (fun en w'' => ∃ rv, en = .returned rv ∧ Post rv w'')) : OpOk P o a w Post := by
  intro next Q hn
  unfold Oper.wp
  rw [h]
  refine hp.mono ?_
  rintro e w'' ⟨rv, rfl, hpost⟩
  exact hn rv w'' hpost

theorem callPV_sound (hc : CtxTy P ctx) (hcall : CallOk P call) (hR : R S w g base bd) (hs : Slots g w S.length σ a.tmps) {o : Oper} {c : Go.Call} (hop : o.op = .call c) {x : PV} {S' : List SObj} {e : Bool}
    (h : callPV ctx call σ S c = some (x, S', e)) : OpOk P o a w (fun v w' => Good base bd S g w x S' e v w') := by
  obtain ⟨o1, o2⟩ := opds hs c.args
  have arg0 : ∀ (k : Nat) (y : PV), (c.args.toList.map (opd σ))[k]? = some y → ∃ y', (c.args.map a.eval)[k]? = some y' ∧ V g w S.length y y' := by
    intro k y hk
    have hl : k < (c.args.map a.eval).size := by have := (List.getElem?_eq_some_iff.1 hk).1; omega
    have := o2 k y hk
    rw [Array.getD_eq_getD_getElem?, Array.getElem?_eq_getElem hl] at this
    exact ⟨_, Array.getElem?_eq_getElem hl, this⟩
  unfold callPV at h
  split at h
  · -- len
    rename_i hcal
    split at h
    case h_2 => cases h
    rename_i t y ys ht hy
    cases hl : lenPV ctx t y S with
    | none => simp [hl] at h
    | some i =>
      simp [hl] at h; obtain ⟨rfl, rfl, rfl⟩ := h
      obtain ⟨y', h1, h2⟩ := arg0 0 y (by rw [hy]; rfl)
      have := step_len (P := P) (ty := o.type) hc hR ht h1 h2 hl
      exact OpOk.value (v := .int .i64 i) (w' := w) (by simp [execOp, hop, resolve, hcal, invoke, builtin, this]) (Good.same hR (.int _ _))
  · -- append
    rename_i hcal
    split at h
    case h_2 => cases h
    rename_i s y ys hy
    cases hl : appendPV ctx c.argTypes s y S with
    | none => simp [hl] at h
    | some z =>
      simp [hl] at h; obtain ⟨rfl, rfl, rfl⟩ := h
      obtain ⟨s', h1, h2⟩ := arg0 0 s (by rw [hy]; rfl)
      obtain ⟨y', h3, h4⟩ := arg0 1 y (by rw [hy]; rfl)
      obtain ⟨v, w', h5, h6⟩ := step_append (P := P) (ty := o.type) hc hR h1 h3 h2 h4 (show appendPV ctx c.argTypes s y S = some (z.1, z.2) from hl)
      exact OpOk.value (v := v) (w' := w') (by simp [execOp, hop, resolve, hcal, invoke, builtin, h5]) h6
  · -- min
    rename_i hcal
    cases hl : minmax false (c.args.toList.map (opd σ)) with
    | none => simp [hl] at h
    | some y =>
      simp [hl] at h; obtain ⟨rfl, rfl, rfl⟩ := h
      obtain ⟨v, h1, h2⟩ := step_minmax (P := P) (w := w) false (ts := c.argTypes) (ty := o.type) o1 o2 hl
      simp only [Bool.false_eq_true, if_false] at h1
      exact OpOk.value (v := v) (w' := w) (by simp [execOp, hop, resolve, hcal, invoke, builtin, h1]) (Good.same hR h2)
  · -- max
    rename_i hcal
    cases hl : minmax true (c.args.toList.map (opd σ)) with
    | none => simp [hl] at h
    | some y =>
      simp [hl] at h; obtain ⟨rfl, rfl, rfl⟩ := h
      obtain ⟨v, h1, h2⟩ := step_minmax (P := P) (w := w) true (ts := c.argTypes) (ty := o.type) o1 o2 hl
      simp only [if_true] at h1
      exact OpOk.value (v := v) (w' := w) (by simp [execOp, hop, resolve, hcal, invoke, builtin, h1]) (Good.same hR h2)
  · cases h
  · -- a function's value
    rename_i f hcal
    split at h
    case h_2 => cases h
    rename_i f' cap hf
    have hfv := opd_sound hs f
    rw [hf] at hfv
    obtain ⟨as', bs', he, ha, hb, _, hbV⟩ := hfv.inv_fn
    have has : as' = #[] := by simpa using ha.symm
    subst has
    have hargs : ∀ (i : Nat) (c' : PV), (c.args.toList.map (opd σ) ++ cap)[i]? = some c' → V g w S.length c' ((c.args.map a.eval ++ bs').getD i undef) := by
      intro i c' hi
      rw [Array.getD_eq_getD_getElem?]
      rcases Nat.lt_or_ge i (c.args.toList.map (opd σ)).length with hl | hl
      · rw [List.getElem?_append_left hl] at hi
        rw [Array.getElem?_append_left (by omega), ← Array.getD_eq_getD_getElem?]
        exact o2 i c' hi
      · rw [List.getElem?_append_right hl] at hi
        rw [Array.getElem?_append_right (by omega), ← o1, ← Array.getD_eq_getD_getElem?]
        exact hbV _ c' hi
    obtain ⟨k1, k2⟩ := hcall f' _ S x S' e h w g base bd (c.args.map a.eval ++ bs') hR (by simp at o1 ⊢; omega) hargs
    refine OpOk.enter (f := f') (args := c.args.map a.eval ++ bs') (w' := w) ?_ k2
    have := CallOk.run (w := w) (cargs := c.args.map a.eval ++ bs') k1
    simp only [execOp, hop, resolve, hcal, he, Deferred.ofValue, Sem.run_bind, Sem.run_pure, Result.andThen_ok, invoke, Array.empty_append]
    exact this
  · -- a method of an interface value
    rename_i r name hcal
    split at h
    case h_2 => cases h
    rename_i f' v hm
    obtain ⟨t, y', v', he, hrun, hv⟩ := step_method (P := P) (fuel := P.types.size + Made.depth - 1) hc (opd_sound hs r) hm
    have hdep : P.types.size + Made.depth - 1 + 1 = P.types.size + Made.depth := by
      have : 0 < Made.depth := by decide
      omega
    rw [hdep] at hrun
    have hargs : ∀ (i : Nat) (c' : PV), (v :: c.args.toList.map (opd σ))[i]? = some c' → V g w S.length c' ((#[v'] ++ c.args.map a.eval).getD i undef) := by
      intro i c' hi
      rw [Array.getD_eq_getD_getElem?]
      cases i with
      | zero =>
        simp at hi; subst hi
        rw [Array.getElem?_append_left (by simp)]
        simpa using hv
      | succ i =>
        have := o2 i c' (by simpa using hi)
        rw [Array.getElem?_append_right (by simp)]
        simpa [Array.getD_eq_getD_getElem?] using this
    obtain ⟨k1, k2⟩ := hcall f' _ S x S' e h w g base bd (#[v'] ++ c.args.map a.eval) hR (by simp at o1 ⊢; omega) hargs
    refine OpOk.enter (f := f') (args := #[v'] ++ c.args.map a.eval) (w' := w) ?_ k2
    have := CallOk.run (w := w) (cargs := #[v'] ++ c.args.map a.eval) k1
    have e0 : (#[Value.iface t y'] ++ c.args.map a.eval)[0]? = some (Value.iface t y') := by
      rw [Array.getElem?_append_left (by simp)]; rfl
    have e1 : (#[Value.iface t y'] ++ c.args.map a.eval).extract 1 (#[Value.iface t y'] ++ c.args.map a.eval).size = c.args.map a.eval := by
      simp
    simp only [execOp, hop, resolve, hcal, Sem.run_bind, Sem.run_pure, Result.andThen_ok, invoke, he, e0, e1, callMethod, run_program, hrun]
    exact this

theorem evStep_sound (hc : CtxTy P ctx) (hcall : CallOk P call) (hR : R S w g base bd) (hs : Slots g w S.length σ a.tmps) (hb : base = 0 ∨ base = base') {o : Oper} {x : PV} {S' : List SObj} {e : Bool}
    (h : evStep ctx call base' σ S o.op = some (x, S', e)) : OpOk P o a w (fun v w' => Good base bd S g w x S' e v w') := by
  cases hop : o.op <;> rw [hop] at h <;> simp only [evStep] at h
  case move y =>
    injection h with h; injection h with h1 h2; injection h2 with h2 h3; subst h1; subst h2; subst h3
    exact OpOk.value (v := a.eval y) (w' := w) (by simp [execOp, hop]) (Good.same hR (opd_sound hs y))
  case assign y =>
    injection h with h; injection h with h1 h2; injection h2 with h2 h3; subst h1; subst h2; subst h3
    exact OpOk.value (v := a.eval y) (w' := w) (by simp [execOp, hop]) (Good.same hR (opd_sound hs y))
  case pick c y z =>
    split at h
    case h_2 => cases h
    rename_i t hct
    injection h with h; injection h with h1 h2; injection h2 with h2 h3; subst h1; subst h2; subst h3
    have hcv := opd_sound hs c
    rw [hct] at hcv
    have hcv := hcv.inv_bool
    refine OpOk.value (v := if t then a.eval y else a.eval z) (w' := w) (by simp [execOp, hop, hcv, asBool]) (Good.same hR ?_)
    cases t
    · exact opd_sound hs z
    · exact opd_sound hs y
  case alloc t =>
    split at h
    case h_2 => cases h
    rename_i ti hti
    split at h
    case isFalse => cases h
    rename_i hst
    injection h with h; injection h with h1 h2; injection h2 with h2 h3; subst h1; subst h2; subst h3
    obtain ⟨v, w', h1, h2⟩ := step_alloc hc hR hti hst
    exact OpOk.value (v := v) (w' := w') (by simp [execOp, hop, h1]) h2
  case box t y =>
    split at h
    case isFalse => cases h
    rename_i hst
    injection h with h; injection h with h1 h2; injection h2 with h2 h3; subst h1; subst h2; subst h3
    obtain ⟨v, w', h1, h2⟩ := step_box (P := P) hR hs (t := t) hst
    exact OpOk.value (v := v) (w' := w') (by simp [execOp, hop, h1]) h2
  case build t ps =>
    cases hy : buildPV ctx t (ps.toList.map fun p => (p.1, opd σ p.2)) with
    | none => simp [hy] at h
    | some y =>
      simp [hy] at h; obtain ⟨rfl, rfl, rfl⟩ := h
      obtain ⟨v, h1, h2⟩ := step_build (P := P) hc (qs := ps.map fun p => (p.1, a.eval p.2)) (by simpa using parts_sound hs ps.toList) hy
      exact OpOk.value (v := v) (w' := w) (by simp [execOp, hop, h1]) (Good.same hR h2)
  case buildSlice t m ps =>
    cases hy : buildSlicePV ctx t m (ps.toList.map fun p => (p.1, opd σ p.2)) with
    | none => simp [hy] at h
    | some y =>
      simp [hy] at h; obtain ⟨rfl, rfl, rfl⟩ := h
      obtain ⟨v, w', h1, h2⟩ := step_buildSlice (P := P) hc hR (qs := ps.map fun p => (p.1, a.eval p.2)) (by simpa using parts_sound hs ps.toList) hy
      exact OpOk.value (v := v) (w' := w') (by simp [execOp, hop, h1]) h2
  case load t p =>
    cases hy : loadPV ctx t (opd σ p) S with
    | none => simp [hy] at h
    | some y =>
      simp [hy] at h; obtain ⟨rfl, rfl, rfl⟩ := h
      obtain ⟨v, h1, h2⟩ := step_load (P := P) hc hR hs hy
      exact OpOk.value (v := v) (w' := w) (by simp [execOp, hop, h1]) (Good.same hR h2)
  case store t p y =>
    cases hy : storePV ctx base' t (opd σ p) (opd σ y) S with
    | none => simp [hy] at h
    | some z =>
      simp [hy] at h; obtain ⟨rfl, rfl, rfl⟩ := h
      obtain ⟨w', h1, h2⟩ := step_store (P := P) hc hR hs hb (show storePV ctx base' t (opd σ p) (opd σ y) S = some (z.1, z.2) from hy)
      exact OpOk.skip (w' := w') (by simp [execOp, hop, h1]) h2
  case nilCheck y =>
    have hy := opd_sound hs y
    split at h
    · rename_i i off hx
      injection h with h; injection h with h1 h2; injection h2 with h2 h3; subst h1; subst h2; subst h3
      rw [hx] at hy
      have he := hy.inv_ptr.1
      exact OpOk.value (v := a.eval y) (w' := w) (by simp [execOp, hop, he]) (Good.same hR hy)
    · rename_i cs off hx
      injection h with h; injection h with h1 h2; injection h2 with h2 h3; subst h1; subst h2; subst h3
      rw [hx] at hy
      obtain ⟨b, o', u, he, _⟩ := hy.inv_iptr
      exact OpOk.value (v := a.eval y) (w' := w) (by simp [execOp, hop, he]) (Good.same hR hy)
    · rename_i t z hx
      injection h with h; injection h with h1 h2; injection h2 with h2 h3; subst h1; subst h2; subst h3
      rw [hx] at hy
      obtain ⟨z', he, _⟩ := hy.inv_ifc
      exact OpOk.value (v := a.eval y) (w' := w) (by simp [execOp, hop, he]) (Good.same hR hy)
    · rename_i f as bs hx
      injection h with h; injection h with h1 h2; injection h2 with h2 h3; subst h1; subst h2; subst h3
      rw [hx] at hy
      obtain ⟨as', bs', he, _⟩ := hy.inv_fn
      exact OpOk.value (v := a.eval y) (w' := w) (by simp [execOp, hop, he]) (Good.same hR hy)
    · cases h
  case binOp op t p q t' =>
    cases hy : binPV ctx op t p q (opd σ p) (opd σ q) with
    | none => simp [hy] at h
    | some y =>
      simp [hy] at h; obtain ⟨rfl, rfl, rfl⟩ := h
      obtain ⟨v, h1, h2⟩ := binPV_sound (P := P) hc (opd_sound hs p) (opd_sound hs q) hy
      refine OpOk.value (v := v) (w' := w) ?_ (Good.same hR h2)
      simp only [execOp, hop]
      rw [Sem.run_bind, h1]
      rfl
  case unOp op t p =>
    cases hy : unPV op (opd σ p) with
    | none => simp [hy] at h
    | some y =>
      simp [hy] at h; obtain ⟨rfl, rfl, rfl⟩ := h
      obtain ⟨v, h1, h2⟩ := unPV_sound (P := P) (w := w) (opd_sound hs p) hy
      exact OpOk.value (v := v) (w' := w) (by simp [execOp, hop, h1]) (Good.same hR h2)
  case convert s d p =>
    cases hy : convPV ctx s d (opd σ p) S with
    | none => simp [hy] at h
    | some z =>
      simp [hy] at h; obtain ⟨rfl, rfl, rfl⟩ := h
      obtain ⟨v, w', h1, h2⟩ := step_conv (P := P) hc hR (opd_sound hs p) (show convPV ctx s d (opd σ p) S = some (z.1, z.2) from hy)
      exact OpOk.value (v := v) (w' := w') (by simp [execOp, hop, h1]) h2
  case makeInterface t p =>
    split at h
    case h_2 => cases h
    rename_i ti hti
    have ht := hc.ty _ _ hti
    split at h
    · cases h
    rename_i hni
    injection h with h; injection h with h1 h2; injection h2 with h2 h3; subst h1; subst h2; subst h3
    refine OpOk.value (v := .iface t (a.eval p)) (w' := w) ?_ (Good.same hR (.ifc _ _ _ (opd_sound hs p)))
    simp only [execOp, hop, Instr.makeInterface, Sem.run_bind, ht.run_und, Result.andThen_ok]
    cases hu : ti.und <;> first | (exfalso; exact hni _ hu) | rfl
  case makeFunc f as bs =>
    injection h with h; injection h with h1 h2; injection h2 with h2 h3; subst h1; subst h2; subst h3
    obtain ⟨a1, a2⟩ := opds hs as
    obtain ⟨b1, b2⟩ := opds hs bs
    exact OpOk.value (v := .func f (as.map a.eval) (bs.map a.eval)) (w' := w) (by simp [execOp, hop, Instr.makeFunc]) (Good.same hR (.fn f _ _ _ _ a1 b1 a2 b2))
  case makeSlice t l c =>
    cases hy : makeSlicePV ctx t (opd σ l) (opd σ c) S with
    | none => simp [hy] at h
    | some z =>
      simp [hy] at h; obtain ⟨rfl, rfl, rfl⟩ := h
      obtain ⟨v, w', h1, h2⟩ := step_makeSlice (P := P) hc hR (opd_sound hs l) (opd_sound hs c) (show makeSlicePV ctx t (opd σ l) (opd σ c) S = some (z.1, z.2) from hy)
      exact OpOk.value (v := v) (w' := w') (by simp [execOp, hop, h1]) h2
  case slice t p lo hi mx =>
    cases hy : slicePV ctx t (opd σ p) (lo.map (opd σ)) (hi.map (opd σ)) (mx.map (opd σ)) with
    | none => simp [hy] at h
    | some y =>
      simp [hy] at h; obtain ⟨rfl, rfl, rfl⟩ := h
      have bnd : ∀ (q : Option Operand) (d : Nat) (i : Int), boundOf (q.map (opd σ)) d = some i → (q.map a.eval = none ∧ i = d) ∨ ∃ k, q.map a.eval = some (.int k i) := by
        intro q d i hq
        refine step_bound (g := g) (w := w) (S := S) (x := q.map (opd σ)) (fun y hy => ?_) (fun hn => ?_) hq
        · cases q with
          | none => simp at hy
          | some q => simp at hy; subst hy; exact ⟨_, rfl, opd_sound hs q⟩
        · cases q with
          | none => rfl
          | some q => simp at hn
      obtain ⟨v, h1, h2⟩ := step_slice (P := P) (mx' := mx.map a.eval) hc (opd_sound hs p) (fun d i hd => bnd lo d i hd) (fun d i hd => bnd hi d i hd) (fun hn => by cases mx with | none => rfl | some m => simp at hn) (fun d i hd => bnd mx d i hd) hy
      exact OpOk.value (v := v) (w' := w) (by simp [execOp, hop, h1]) (Good.same hR h2)
  case fieldAddr t p i =>
    cases hy : fieldAddrPV ctx t (opd σ p) i with
    | none => simp [hy] at h
    | some y =>
      simp [hy] at h; obtain ⟨rfl, rfl, rfl⟩ := h
      obtain ⟨v, h1, h2⟩ := step_fieldAddr (P := P) hs hc hy
      exact OpOk.value (v := v) (w' := w) (by simp [execOp, hop, h1]) (Good.same hR h2)
  case field t p i =>
    split at h
    case h_2 => cases h
    rename_i fs cs hfs hcs
    split at h
    case h_2 => cases h
    rename_i f hf
    cases hy : partOf ctx f.type cs f.offset with
    | none => simp [hy] at h
    | some y =>
      simp [hy] at h; obtain ⟨rfl, rfl, rfl⟩ := h
      obtain ⟨v, h1, h2⟩ := step_field (P := P) hs hc hfs hcs hf hy
      exact OpOk.value (v := v) (w' := w) (by simp [execOp, hop, h1]) (Good.same hR h2)
  case indexAddr t p i =>
    split at h
    case h_2 => cases h
    rename_i k m hi
    cases hy : indexAddrPV ctx t (opd σ p) m with
    | none => simp [hy] at h
    | some y =>
      simp [hy] at h; obtain ⟨rfl, rfl, rfl⟩ := h
      have hiv := opd_sound hs i
      rw [hi] at hiv
      obtain ⟨v, h1, h2⟩ := step_indexAddr (P := P) hc (opd_sound hs p) hiv.inv_int hy
      exact OpOk.value (v := v) (w' := w) (by simp [execOp, hop, h1]) (Good.same hR h2)
  case index t p i =>
    split at h
    case h_2 => cases h
    rename_i k m hi
    cases hy : indexPV ctx t (opd σ p) m with
    | none => simp [hy] at h
    | some y =>
      simp [hy] at h; obtain ⟨rfl, rfl, rfl⟩ := h
      have hiv := opd_sound hs i
      rw [hi] at hiv
      obtain ⟨v, h1, h2⟩ := step_index (P := P) hc (opd_sound hs p) hiv.inv_int hy
      exact OpOk.value (v := v) (w' := w) (by simp [execOp, hop, h1]) (Good.same hR h2)
  case typeAssert p xt t ok =>
    cases hy : assertPV ctx (opd σ p) t ok with
    | none => simp [hy] at h
    | some y =>
      simp [hy] at h; obtain ⟨rfl, rfl, rfl⟩ := h
      obtain ⟨v, h1, h2⟩ := step_assert (P := P) (xt := xt) hc (opd_sound hs p) hy
      exact OpOk.value (v := v) (w' := w) (by simp [execOp, hop, h1]) (Good.same hR h2)
  case extract p i =>
    split at h
    case h_2 => cases h
    rename_i vs hvs
    cases hy : vs[i]? with
    | none => simp [hy] at h
    | some y =>
      simp [hy] at h; obtain ⟨rfl, rfl, rfl⟩ := h
      have hp := opd_sound hs p
      rw [hvs] at hp
      obtain ⟨vs', he, h1, h2⟩ := hp.inv_tup
      have hV := h2 i _ hy
      have hlt : i < vs'.size := by have := (List.getElem?_eq_some_iff.1 hy).1; omega
      rw [Array.getD_eq_getD_getElem?, Array.getElem?_eq_getElem hlt] at hV
      exact OpOk.value (v := vs'[i]) (w' := w) (by simp [execOp, hop, he, Instr.extract, Array.getElem?_eq_getElem hlt]) (Good.same hR hV)
  case call c =>
    exact callPV_sound hc hcall hR hs hop h
  all_goals cases h

theorem birthPV_sound (hc : CtxTy P ctx) (hR : R S w g base bd) (hs : Slots g w S.length σ a.tmps) {o : Oper} {x : PV} {S' : List SObj}
    (h : birthPV ctx σ S o.op = some (x, S')) : OpOk P o a w (fun v w' => Good base bd S g w x S' false v w') := by
  cases hop : o.op <;> rw [hop] at h <;> simp only [birthPV] at h
  case makeSlice t l c =>
    split at h
    case h_2 => cases h
    rename_i ti k n k' m hti hl hcc
    split at h
    case h_2 => cases h
    rename_i e hund
    split at h
    case h_2 => cases h
    rename_i ei hei
    split at h
    case isFalse => cases h
    rename_i hn
    injection h with h; injection h with h1 h2; subst h1; subst h2
    have hlv := opd_sound hs l
    have hcv := opd_sound hs c
    rw [hl] at hlv
    rw [hcc] at hcv
    obtain ⟨v, w', h1, h2⟩ := born_makeSlice (P := P) hc hR hlv hcv hti hund hei hn
    exact OpOk.value (v := v) (w' := w') (by simp [execOp, hop, h1]) h2
  case alloc t =>
    split at h
    case h_2 => cases h
    rename_i ti hti
    split at h
    case h_3 => cases h
    · rename_i n e hund
      split at h
      case h_2 => cases h
      rename_i ei hei
      split at h
      case isFalse => cases h
      rename_i hn
      injection h with h; injection h with h1 h2; subst h1; subst h2
      obtain ⟨v, w', h1, h2⟩ := born_alloc (P := P) hc hR hti hund hei hn.1 hn.2.1 hn.2.2
      exact OpOk.value (v := v) (w' := w') (by simp [execOp, hop, h1]) h2
    · split at h
      case isFalse => cases h
      rename_i hz0
      injection h with h; injection h with h1 h2; subst h1; subst h2
      obtain ⟨v, w', h1, h2⟩ := born_bld (P := P) hc hR hti hz0
      exact OpOk.value (v := v) (w' := w') (by simp [execOp, hop, h1]) h2
  case buildSlice t m ps =>
    split at h
    case h_2 => cases h
    rename_i ti hti
    split at h
    case h_2 => cases h
    rename_i e hund
    split at h
    case h_2 => cases h
    rename_i ei xs hei hy
    injection h with h; injection h with h1 h2; subst h1; subst h2
    obtain ⟨v, w', h1, h2⟩ := born_buildSlice (P := P) hc hR hti hund hei (qs := ps.map fun p => (p.1, a.eval p.2)) (by simpa using parts_sound hs ps.toList) hy
    exact OpOk.value (v := v) (w' := w') (by simp [execOp, hop, h1]) h2
  case convert s d p =>
    split at h
    case h_2 => cases h
    rename_i xs id S1 hy
    injection h with h; injection h with h1 h2; subst h1; subst h2
    obtain ⟨v, w', h1, h2⟩ := born_conv (P := P) hc hR (opd_sound hs p) hy
    exact OpOk.value (v := v) (w' := w') (by simp [execOp, hop, h1]) h2
  case call c =>
    split at h
    case h_2 => cases h
    rename_i s y ys hcal hy
    obtain ⟨o1, o2⟩ := opds hs c.args
    have arg0 : ∀ (k : Nat) (y : PV), (c.args.toList.map (opd σ))[k]? = some y → ∃ y', (c.args.map a.eval)[k]? = some y' ∧ V g w S.length y y' := by
      intro k y hk
      have hl : k < (c.args.map a.eval).size := by have := (List.getElem?_eq_some_iff.1 hk).1; omega
      have := o2 k y hk
      rw [Array.getD_eq_getD_getElem?, Array.getElem?_eq_getElem hl] at this
      exact ⟨_, Array.getElem?_eq_getElem hl, this⟩
    obtain ⟨s', h1, h2⟩ := arg0 0 s (by rw [hy]; rfl)
    obtain ⟨y', h3, h4⟩ := arg0 1 y (by rw [hy]; rfl)
    -- nothing appended: as it was
    have plain : ∀ (s0 : PV), s = s0 → appendPV ctx c.argTypes s0 y S = some (x, S') → OpOk P o a w (fun v w' => Good base bd S g w x S' false v w') := by
      rintro s0 rfl hl
      obtain ⟨v, w', h5, h6⟩ := step_append (P := P) (ty := o.type) hc hR h1 h3 h2 h4 hl
      exact OpOk.value (v := v) (w' := w') (by simp [execOp, hop, resolve, hcal, invoke, builtin, h5]) h6
    have born : ∀ (A : Option Addr), s' = .slice A 0 0 → listOf y ≠ some [] → birthPV.bornApp ctx c.argTypes y S = some (x, S') → OpOk P o a w (fun v w' => Good base bd S g w x S' false v w') := by
      rintro A rfl hne hl
      obtain ⟨v, w', h5, h6⟩ := born_append (P := P) (ty := o.type) hc hR h1 h3 h4 hl hne
      exact OpOk.value (v := v) (w' := w') (by simp [execOp, hop, resolve, hcal, invoke, builtin, h5]) h6
    split at h
    · split at h
      · exact plain _ rfl h
      · rename_i hne
        exact born none h2.inv_nils (fun he => hne he) h
    · split at h
      · exact plain _ rfl h
      · rename_i hne
        obtain ⟨A, hA⟩ := h2.inv_emp
        exact born (some A) hA (fun he => hne he) h
    · exact plain _ rfl h
  all_goals cases h

theorem evStepF_sound (hc : CtxTy P ctx) (hcall : CallOk P call) (hR : R S w g base bd) (hs : Slots g w S.length σ a.tmps) (hb : base = 0 ∨ base = base') {o : Oper} {p : POp} (hop : p.op = o.op) {x : PV} {S' : List SObj} {e : Bool}
    (h : evStepF ctx call base' σ S p = some (x, S', e)) : OpOk P o a w (fun v w' => Good base bd S g w x S' e v w') := by
  unfold evStepF at h
  obtain ⟨g1, r1, e1, s1⟩ := frzT_sound (frzArgs ctx σ p.op) σ S g hR hs
  have hlen := frzT_len (frzArgs ctx σ p.op) σ S
  generalize frzT (frzArgs ctx σ p.op) σ S = q at h r1 s1 hlen
  obtain ⟨σ1, S1⟩ := q
  simp only at h r1 s1 hlen
  rw [← hlen] at s1
  have back : ∀ {v : Value} {w' : World}, Good base bd S1 g1 w x S' e v w' → Good base bd S g w x S' e v w' := by
    rintro v w' ⟨g2, k1, k2, k3, k4⟩
    rw [hlen] at k3 k4
    exact ⟨g2, k1, k2, e1.trans k3, k4⟩
  have mono : ∀ {Post Post' : Value → World → Prop}, OpOk P o a w Post → (∀ v w', Post v w' → Post' v w') → OpOk P o a w Post' := by
    intro Post Post' h1 h2 next Q hn
    exact h1 next Q (fun v w' hp => hn v w' (h2 v w' hp))
  rw [hop] at h
  split at h
  · cases hy : birthPV ctx σ1 S1 o.op with
    | none => rw [hy] at h; cases h
    | some z =>
      rw [hy] at h
      simp only [Option.map_some, Option.some.injEq, Prod.mk.injEq] at h
      obtain ⟨rfl, rfl, rfl⟩ := h
      exact mono (birthPV_sound hc r1 s1 hy) (fun v w' => back)
  · exact mono (evStep_sound hc hcall r1 s1 hb h) (fun v w' => back)
end
end Go.Pam
