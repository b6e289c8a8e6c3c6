/- Regions whose order is left open, some of whose operations turn the store. -/
import Derived.Test.YthkjepoaddfoiaaPamD
namespace Go.Pam
set_option linter.unusedVariables false
set_option linter.unusedSimpArgs false

theorem map_indep {α : Type} {x : Option α} {f : α → PV} {S S' T : List SObj} {v : PV} {e : Bool} (h : (x.map fun a => (f a, S, false)) = some (v, S', e)) : (x.map fun a => (f a, T, false)) = some (v, T, false) := by
  cases x with
  | none => cases h
  | some a => simp at h ⊢; exact h.1

theorem push_ne {S : List SObj} {x : SObj} (h : S ++ [x] = S) : False := by
  have := congrArg List.length h
  simp at this

theorem indepOp_ok {ctx : Ctx} {call : Call'} {base : Nat} {σ : Nat → PV} {S S' : List SObj} {op : Op} {v : PV} {e' : Bool} (h : evStep ctx call base σ S op = some (v, S', e')) (hi : indepOp σ op = true) (hS : S' = S) (T : List SObj) :
    evStep ctx call base σ T op = some (v, T, false) := by
  cases op <;> simp only [evStep] at h ⊢ <;> try exact map_indep h
  case move => injection h with h; injection h with h1 h2; rw [h1]
  case assign => injection h with h; injection h with h1 h2; rw [h1]
  case pick =>
    split at h
    · injection h with h; injection h with h1 h2; rw [h1]
    · cases h
  case alloc => cases hi
  case box => cases hi
  case load t a =>
    simp only [indepOp] at hi
    split at hi
    case h_2 => cases hi
    rename_i cs off ha
    rw [ha] at h ⊢
    simp only [loadPV] at h ⊢
    exact map_indep h
  case store => cases hi
  case nilCheck =>
    split at h
    all_goals first | (injection h with h; injection h with h1 h2; rw [h1]) | cases h
  case convert s d x =>
    unfold convPV at h ⊢
    cases hs : ctx.ty s with
    | none => simp [hs] at h
    | some si =>
      cases hd : ctx.ty d with
      | none => simp [hs, hd] at h
      | some di =>
        simp only [hs, hd] at h ⊢
        split at h
        · simp at h ⊢; exact h.1
        · simp at h ⊢; exact h.1
        · split at h
          · split at h
            · simp at h
              exfalso
              rw [hS] at h
              exact push_ne h.2.1
            · cases h
          · cases h
        · split at h
          · split at h
            · rename_i x1 x2 x3 x4 x5 x6 x7 x8 x9 x10
              simp at h
              obtain ⟨a, h1, h2, _⟩ := h
              simp [h1, h2]
            · cases h
          · cases h
        · split at h
          · split at h
            · simp at h ⊢; simp_all
            · cases h
          · cases h
        · cases h
  case makeInterface t x =>
    split at h
    · split at h
      · cases h
      · injection h with h; injection h with h1 h2; rw [h1]
    · cases h
  case makeFunc => injection h with h; injection h with h1 h2; rw [h1]
  case makeSlice t l c =>
    unfold makeSlicePV at h ⊢
    split at h
    · split at h
      · split at h
        · split at h
          · rename_i x1 x2 x3 x4 x5 x6 x7 x8 x9 x10 x11 x12 x13 x14 hc
            simp only [Option.map_some] at h
            injection h with h; injection h with h1 h2
            rw [if_pos hc]
            simp [h1]
          · cases h
        · cases h
      · cases h
    · cases h
  case field t x i =>
    split at h
    · split at h
      · exact map_indep h
      · cases h
    · cases h
  case indexAddr t x i =>
    split at h
    · exact map_indep h
    · cases h
  case index t x i =>
    split at h
    · exact map_indep h
    · cases h
  case extract x i =>
    split at h
    · exact map_indep h
    · cases h
  case call c =>
    unfold callPV at h ⊢
    simp only [indepOp] at hi
    cases hc : c.callee with
    | value f => simp [hc] at hi
    | invoke r m => simp [hc] at hi
    | builtin b =>
      simp only [hc] at h hi ⊢
      cases b <;> simp only [Bool.false_eq_true] at hi <;> simp only at h ⊢ <;> try exact map_indep h
      split at h
      · rename_i t x xs ht hx
        rw [hx] at hi
        split at hi
        · cases hi
        rename_i hnm
        have e : ∀ T : List SObj, lenPV ctx t x T = lenPV ctx t x S := by
          intro T
          unfold lenPV
          cases ctx.ty t with
          | none => rfl
          | some ti =>
            simp only
            split <;> try rfl
            rename_i id _
            exact absurd rfl (hnm id _)
        rw [e T]
        exact map_indep h
      · cases h
  all_goals cases h

theorem frzT_free : ∀ (xs : List Operand) (σ : Nat → PV) (S : List SObj), (∀ t, notRow (σ t) = true ∨ .tmp t ∉ xs) → frzT xs σ S = ((frzT xs σ []).1, S)
  | [], _, _, _ => rfl
  | .tmp t :: xs, σ, S, h => by
    have ht : notRow (σ t) = true := (h t).resolve_right (fun hn => hn List.mem_cons_self)
    have e : ∀ T, frzQ (σ t) T = (frzQ (σ t) []).map fun q => (q.1, T) := by
      intro T
      unfold frzQ
      cases hv : σ t <;> first | rfl | (rw [hv] at ht; cases ht)
    have hn : ∀ q, frzQ (σ t) [] = some q → notRow q.1 = true := by
      intro q
      unfold frzQ
      cases hv : σ t <;> intro hq <;> first | (rw [hv] at ht; cases ht; done) | (cases hq; done) | (injection hq with hq; subst hq; rfl)
    simp only [frzT]
    rw [e S]
    cases hq : frzQ (σ t) [] with
    | none =>
      exact frzT_free xs σ S fun s => (h s).imp id fun h hm => h (List.mem_cons_of_mem _ hm)
    | some q =>
      have h0 := e []
      rw [hq] at h0
      simp only [Option.map_some, Option.some.injEq] at h0
      simp only [Option.map_some]
      rw [h0]
      refine frzT_free xs _ S fun s => ?_
      simp only [upd]
      split
      · exact .inl (hn q hq)
      · rcases h s with h | h
        · exact .inl h
        · exact .inr fun hm => h (List.mem_cons_of_mem _ hm)
  | .const _ :: xs, σ, S, h => frzT_free xs σ S fun t => (h t).imp id fun h hm => h (List.mem_cons_of_mem _ hm)
  | .global _ :: xs, σ, S, h => frzT_free xs σ S fun t => (h t).imp id fun h hm => h (List.mem_cons_of_mem _ hm)
  | .func _ :: xs, σ, S, h => frzT_free xs σ S fun t => (h t).imp id fun h hm => h (List.mem_cons_of_mem _ hm)

theorem indep_ok {ctx : Ctx} {call : Call'} {base : Nat} {σ : Nat → PV} {S S' : List SObj} {p : POp} {v : PV} {e' : Bool} (h : evStepF ctx call base σ S p = some (v, S', e')) (hi : indep ctx σ p = true) (hS : S' = S) (T : List SObj) :
    evStepF ctx call base σ T p = some (v, T, false) := by
  simp only [indep, Bool.and_eq_true, Bool.not_eq_true', List.all_eq_true] at hi
  obtain ⟨⟨h1, h2⟩, h3⟩ := hi
  have hf : ∀ T, frzT (frzArgs ctx σ p.op) σ T = ((frzT (frzArgs ctx σ p.op) σ []).1, T) := fun T => frzT_free _ _ _ fun t => by
    by_cases hm : Operand.tmp t ∈ frzArgs ctx σ p.op
    · exact .inl (h3 _ hm)
    · exact .inr hm
  unfold evStepF at h ⊢
  rw [hf] at h ⊢
  simp only [h1, Bool.false_eq_true, if_false] at h ⊢
  exact indepOp_ok h h2 hS T

section
variable {ctx : Ctx} {call : Call'} {fr : Fr}

def ChainAt (ctx : Ctx) (call : Call') (fr : Fr) (p : POp) (σ : Nat → PV) (v : PV) (T T' : List SObj × Bool) (all : List SObj → Prop) : Prop :=
  dstOk fr.ntmps p.dst = true ∧ ((wantedPV σ p.guard = some false ∧ v = .tup [] ∧ T' = T) ∨
    (wantedPV σ p.guard = some true ∧ chained p = true ∧ ∃ e, evStepF ctx call fr.base σ T.1 p = some (v, T'.1, e) ∧ T'.2 = (T.2 || e)) ∨
    (wantedPV σ p.guard = some true ∧ chained p = false ∧ T' = T ∧ ∀ S, all S → evStepF ctx call fr.base σ S p = some (v, S, false)))

theorem ChainAt.congr {p : POp} {σ σ' : Nat → PV} {v : PV} {T T' : List SObj × Bool} {all : List SObj → Prop} (h : ChainAt ctx call fr p σ v T T' all) (hs : ∀ t ∈ p.looks, σ t = σ' t) : ChainAt ctx call fr p σ' v T T' all := by
  have hw : wantedPV σ p.guard = wantedPV σ' p.guard := wantedPV_congr fun t w hg => hs t (mem_looks_guard hg)
  have he : ∀ S, evStepF ctx call fr.base σ S p = evStepF ctx call fr.base σ' S p := fun S => evStepF_congr _ fun x hx => opd_congr fun t ht => hs t (mem_looks_op (by rw [← ht]; exact hx))
  unfold ChainAt at *
  simp only [← hw, ← he]; exact h

theorem ChainAt.mono {p : POp} {σ : Nat → PV} {v : PV} {T T' : List SObj × Bool} {all all' : List SObj → Prop} (h : ChainAt ctx call fr p σ v T T' all) (hs : ∀ S, all' S → all S) : ChainAt ctx call fr p σ v T T' all' := by
  obtain ⟨h1, h2⟩ := h
  refine ⟨h1, ?_⟩
  rcases h2 with h2 | h2 | ⟨a, b, c, d⟩
  · exact .inl h2
  · exact .inr (.inl h2)
  · exact .inr (.inr ⟨a, b, c, fun S hS => d S (hs S hS)⟩)

theorem chain_trace : ∀ (l : List POp) (hist : List (List SObj)) (pend : List (TypeId × PV × PV)) (σ : Nat → PV) (S : List SObj) (e : Bool) (r : (Nat → PV) × List SObj × Bool), evChain ctx call fr l hist pend σ S e = some r → PendOk ctx pend S →
    ∃ (vs : List PV) (Ts : Nat → List SObj × Bool), vs.length = l.length ∧ Ts 0 = (S, e) ∧ Ts l.length = r.2 ∧ lex l vs σ l.length = r.1 ∧ (∀ j, j ≤ l.length → PendOk ctx pend (Ts j).1) ∧
      ∀ (i : Nat) (p : POp), l[i]? = some p → ChainAt ctx call fr p (lex l vs σ i) (vs.getD i .poison) (Ts i) (Ts (i + 1)) (fun S' => S' ∈ hist ∨ ∃ j, j ≤ l.length ∧ (Ts j).1 = S')
  | [], hist, pend, σ, S, e, r, h, hp => by
    simp only [evChain] at h
    injection h with h; subst h
    exact ⟨[], fun _ => (S, e), rfl, rfl, rfl, rfl, fun j _ => hp, fun i p hi => by simp at hi⟩
  | p :: l, hist, pend, σ, S, e, r, h, hp => by
    simp only [evChain] at h
    split at h
    case isFalse => cases h
    rename_i hd
    have go : ∀ (v : PV) (hist' : List (List SObj)) (pend' : List (TypeId × PV × PV)) (S' : List SObj) (e' : Bool), (∀ q ∈ pend, q ∈ pend') → PendOk ctx pend' S' → (∀ T ∈ hist', T ∈ hist ∨ T = S) → (∀ T ∈ hist, T ∈ hist') → (S' ≠ S → S ∈ hist') →
        (∀ all : List SObj → Prop, (∀ T, all T → T ∈ hist ∨ T = S ∨ PendOk ctx pend' T) → ChainAt ctx call fr p σ v (S, e) (S', e') all) →
        evChain ctx call fr l hist' pend' (upd σ p.dst v) S' e' = some r →
        ∃ (vs : List PV) (Ts : Nat → List SObj × Bool), vs.length = (p :: l).length ∧ Ts 0 = (S, e) ∧ Ts (p :: l).length = r.2 ∧ lex (p :: l) vs σ (p :: l).length = r.1 ∧ (∀ j, j ≤ (p :: l).length → PendOk ctx pend (Ts j).1) ∧
          ∀ (i : Nat) (q : POp), (p :: l)[i]? = some q → ChainAt ctx call fr q (lex (p :: l) vs σ i) (vs.getD i .poison) (Ts i) (Ts (i + 1)) (fun S' => S' ∈ hist ∨ ∃ j, j ≤ (p :: l).length ∧ (Ts j).1 = S') := by
      intro v hist' pend' S' e' hpp hp' hh' hh hSS hat h
      obtain ⟨vs, Ts, h1, h2, h3, h4, h5, h6⟩ := chain_trace l hist' pend' _ S' e' r h hp'
      refine ⟨v :: vs, fun j => match j with | 0 => (S, e) | j + 1 => Ts j, by simp [h1], rfl, h3, h4, fun j hj => ?_, fun i q hi => ?_⟩
      · cases j with
        | zero => exact hp
        | succ j =>
          simp only [List.length_cons] at hj
          exact fun q hq => h5 j (by omega) q (hpp q hq)
      · cases i with
        | zero =>
          simp at hi; subst hi
          show ChainAt ctx call fr p σ v (S, e) (Ts 0) _
          rw [h2]
          refine hat _ fun T hT => ?_
          rcases hT with hT | ⟨j, hj, rfl⟩
          · exact .inl hT
          · cases j with
            | zero => exact .inr (.inl rfl)
            | succ j =>
              simp only [List.length_cons] at hj
              exact .inr (.inr (h5 j (by omega)))
        | succ i =>
          have h7 := h6 i q (by simpa using hi)
          refine h7.mono fun T hT => ?_
          rcases hT with hT | ⟨j, hj, rfl⟩
          · exact .inl (hh T hT)
          · cases j with
            | zero =>
              by_cases hs : S' = S
              · exact .inr ⟨0, by omega, by rw [h2]; exact hs⟩
              · exact .inl (hSS hs)
            | succ j =>
              simp only [List.length_cons] at hj
              exact .inr ⟨j, by omega, rfl⟩
    split at h
    · cases h
    · rename_i hw
      exact go (.tup []) hist pend S e (fun _ h => h) hp (fun T h => .inl h) (fun T h => h) (fun h => absurd rfl h) (fun all _ => ⟨hd, .inl ⟨hw, rfl, rfl⟩⟩) h
    · rename_i hw
      split at h
      · cases h
      rename_i v S' e' hs
      split at h
      · rename_i hch
        split at h
        case isFalse => cases h
        rename_i hpp
        refine go v (S :: hist) pend S' (e || e') (fun _ h => h) hpp (fun T hT => ?_) (fun T hT => List.mem_cons_of_mem _ hT) (fun _ => List.mem_cons_self) (fun all _ => ⟨hd, .inr (.inl ⟨hw, hch, e', hs, rfl⟩)⟩) h
        rcases List.mem_cons.1 hT with rfl | hT
        · exact .inr rfl
        · exact .inl hT
      · rename_i hch
        simp only [Bool.not_eq_true] at hch
        split at h
        case isFalse => cases h
        rename_i hsame
        simp only [Bool.and_eq_true, Bool.not_eq_true'] at hsame
        have hS := sameS_eq _ _ hsame.1
        split at h
        · rename_i hin
          exact go v hist pend S e (fun _ h => h) hp (fun T h => .inl h) (fun T h => h) (fun h => absurd rfl h) (fun all _ => ⟨hd, .inr (.inr ⟨hw, hch, rfl, fun T _ => indep_ok hs hin hS T⟩)⟩) h
        · rename_i hin
          split at h
          case h_2 => cases h
          rename_i t a hlo
          split at h
          case isFalse => cases h
          rename_i hall
          have hwr : p.wr = false := by
            unfold chained at hch
            cases hw : p.wr with
            | false => rfl
            | true => rw [hw] at hch; cases hch
          have hlv : ∃ x, p.op = .load t x ∧ opd σ x = a := by
            revert hlo
            generalize p.op = o
            intro hlo
            cases o <;> simp only [loadOf, reduceCtorEq] at hlo
            injection hlo with hlo; injection hlo with h1 h2
            subst h1
            exact ⟨_, rfl, h2⟩
          obtain ⟨x, hop, hx⟩ := hlv
          have hl : ∀ T, loadPV ctx t a T = some v → evStepF ctx call fr.base σ T p = some (v, T, false) := by
            intro T hT
            unfold evStepF
            rw [hop, hwr]
            simp only [frzArgs, frzT, Bool.false_eq_true, if_false, evStep, hx, hT, Option.map_some]
          have hv : loadPV ctx t a S = some v := by
            unfold evStepF at hs
            rw [hop, hwr] at hs
            simp only [frzArgs, frzT, Bool.false_eq_true, if_false, evStep, hx] at hs
            cases hq : loadPV ctx t a S with
            | none => rw [hq] at hs; cases hs
            | some y => rw [hq] at hs; simp at hs; rw [hs.1]
          refine go v hist ((t, a, v) :: pend) S e (fun q hq => List.mem_cons_of_mem _ hq) ?_ (fun T h => .inl h) (fun T h => h) (fun h => absurd rfl h) (fun all hA => ⟨hd, .inr (.inr ⟨hw, hch, rfl, fun T hT => ?_⟩)⟩) h
          · intro q hq
            rcases List.mem_cons.1 hq with rfl | hq
            · exact hv
            · exact hp q hq
          · rcases hA T hT with h1 | rfl | h1
            · exact hl T (hall T h1)
            · exact hl T hv
            · exact hl T (h1 _ List.mem_cons_self)
end
end Go.Pam
