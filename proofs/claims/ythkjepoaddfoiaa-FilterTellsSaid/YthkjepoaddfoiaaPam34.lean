/- Runs in which something older is told of something newer. -/
import Derived.Test.YthkjepoaddfoiaaPam33
namespace Go.Pam
variable {env : Env} {fr : Fr} {σ : Nat → PV} {S : List SObj} {S0 : List SObj} {R : List Nat} {C : List (Nat × SObj)} {A : List (PV × Nat)} {W : List (PV × SObj)}
set_option linter.unusedSimpArgs false
set_option linter.unusedVariables false

/-! Whether something older has been told of something newer plays no part in what is done -/
theorem evOps_any {ctx : Ctx} {call : Call'} {fr : Fr} : ∀ (ops : List POp) (σ : Nat → PV) (S : List SObj) (e : Bool) {σ' : Nat → PV} {S' : List SObj} {e' : Bool} (e1 : Bool), evOps ctx call fr ops σ S e = some (σ', S', e') →
    ∃ e2, evOps ctx call fr ops σ S e1 = some (σ', S', e2)
  | [], σ, S, e, σ', S', e', e1, h => by
    simp only [evOps, Option.some.injEq, Prod.mk.injEq] at h
    obtain ⟨rfl, rfl, _⟩ := h
    exact ⟨e1, rfl⟩
  | o :: rest, σ, S, e, σ', S', e', e1, h => by
    simp only [evOps] at h ⊢
    split at h
    case isFalse => cases h
    rename_i hd
    rw [if_pos hd]
    split at h
    · cases h
    · rename_i hw; try simp only [hw]
      exact evOps_any rest _ S e e1 h
    · rename_i hw
      try simp only [hw]
      split at h
      · cases h
      · rename_i v S1 e3 hs
        try simp only [hs]
        exact evOps_any rest _ S1 _ (e1 || e3) h

theorem evChain_any {ctx : Ctx} {call : Call'} {fr : Fr} : ∀ (ops : List POp) (hist : List (List SObj)) (pend : List (TypeId × PV × PV)) (σ : Nat → PV) (S : List SObj) (e : Bool) {σ' : Nat → PV} {S' : List SObj} {e' : Bool} (e1 : Bool), evChain ctx call fr ops hist pend σ S e = some (σ', S', e') →
    ∃ e2, evChain ctx call fr ops hist pend σ S e1 = some (σ', S', e2)
  | [], hist, pend, σ, S, e, σ', S', e', e1, h => by
    simp only [evChain, Option.some.injEq, Prod.mk.injEq] at h
    obtain ⟨rfl, rfl, _⟩ := h
    exact ⟨e1, rfl⟩
  | o :: rest, hist, pend, σ, S, e, σ', S', e', e1, h => by
    simp only [evChain] at h ⊢
    split at h
    case isFalse => cases h
    rename_i hd
    rw [if_pos hd]
    split at h
    · cases h
    · rename_i hw; try simp only [hw]
      exact evChain_any rest _ _ _ S e e1 h
    · rename_i hw
      try simp only [hw]
      split at h
      · cases h
      · rename_i v S1 e3 hs
        try simp only [hs]
        split at h
        · rename_i hc
          rw [if_pos hc]
          split at h
          case isFalse => cases h
          rename_i hp
          rw [if_pos hp]
          exact evChain_any rest _ _ _ S1 _ (e1 || e3) h
        · rename_i hc
          rw [if_neg hc]
          split at h
          case isFalse => cases h
          rename_i hp
          rw [if_pos hp]
          split at h
          · rename_i hi
            rw [if_pos hi]
            exact evChain_any rest _ _ _ S e e1 h
          · rename_i hi
            rw [if_neg hi]
            split at h
            · rename_i t a hl
              try simp only [hl]
              split at h
              case isFalse => cases h
              rename_i hh
              rw [if_pos hh]
              exact evChain_any rest _ _ _ S e e1 h
            · cases h

theorem rounds_any {body : St → Option (Ex × St)} (hb : ∀ (σ : Nat → PV) (S : List SObj) (e : Bool) {x : Ex} {σ' : Nat → PV} {S' : List SObj} {e' : Bool} (e1 : Bool), body (σ, S, e) = some (x, σ', S', e') → ∃ e2, body (σ, S, e1) = some (x, σ', S', e2)) :
    ∀ (k : Nat) (σ : Nat → PV) (S : List SObj) (e : Bool) {x : Ex} {σ' : Nat → PV} {S' : List SObj} {e' : Bool} (e1 : Bool), rounds body k (σ, S, e) = some (x, σ', S', e') → ∃ e2, rounds body k (σ, S, e1) = some (x, σ', S', e2)
  | 0, _, _, _, _, _, _, _, _, h => by cases h
  | k + 1, σ, S, e, x, σ', S', e', e1, h => by
    simp only [rounds] at h ⊢
    cases hq : body (σ, S, e) with
    | none => rw [hq] at h; cases h
    | some q =>
      rw [hq] at h
      obtain ⟨y, σ1, S1, e3⟩ := q
      obtain ⟨e4, h4⟩ := hb σ S e e1 hq
      rw [h4]
      cases y with
      | normal => exact rounds_any hb k σ1 S1 e3 e4 h
      | exit i => simp only [Option.some.injEq, Prod.mk.injEq] at h ⊢; obtain ⟨rfl, rfl, rfl, _⟩ := h; exact ⟨e4, rfl, rfl, rfl, rfl⟩
      | ret => simp only [Option.some.injEq, Prod.mk.injEq] at h ⊢; obtain ⟨rfl, rfl, rfl, _⟩ := h; exact ⟨e4, rfl, rfl, rfl, rfl⟩

theorem codeW_any {ctx : Ctx} {call : Call'} {fr : Fr} : ∀ (c : PC) (σ : Nat → PV) (S : List SObj) (e : Bool) {x : Ex} {σ' : Nat → PV} {S' : List SObj} {e' : Bool} (e1 : Bool), codeW ctx call fr c (σ, S, e) = some (x, σ', S', e') →
    ∃ e2, codeW ctx call fr c (σ, S, e1) = some (x, σ', S', e2) := by
  intro c
  induction c with
  | skip => intro σ S e x σ' S' e' e1 h; simp only [codeW, Option.some.injEq, Prod.mk.injEq] at h ⊢; obtain ⟨rfl, rfl, rfl, _⟩ := h; exact ⟨e1, rfl, rfl, rfl, rfl⟩
  | region ops =>
    intro σ S e x σ' S' e' e1 h
    simp only [codeW] at h ⊢
    split at h
    · rename_i s' hs
      obtain ⟨σ2, S2, e2⟩ := s'
      simp only [Option.some.injEq, Prod.mk.injEq] at h
      obtain ⟨rfl, rfl, rfl, _⟩ := h
      obtain ⟨e3, h3⟩ := evOps_any ops _ _ _ e1 hs
      exact ⟨e3, by rw [h3]⟩
    · cases h
  | draw hd tl =>
    intro σ S e x σ' S' e' e1 h
    simp only [codeW] at h ⊢
    split at h
    · rename_i s1 h1
      try simp only [h1]
      split at h
      · rename_i s' hs
        obtain ⟨σ2, S2, e2⟩ := s'
        simp only [Option.some.injEq, Prod.mk.injEq] at h
        obtain ⟨rfl, rfl, rfl, _⟩ := h
        obtain ⟨e3, h3⟩ := evOps_any tl _ _ _ e1 hs
        exact ⟨e3, by rw [h3]⟩
      · cases h
    · cases h
  | drawC hd tl =>
    intro σ S e x σ' S' e' e1 h
    simp only [codeW] at h ⊢
    split at h
    · rename_i s1 h1
      obtain ⟨σ1, S1, e4⟩ := s1
      obtain ⟨e5, h5⟩ := evChain_any hd _ _ _ _ _ e1 h1
      rw [h5]
      split at h
      · rename_i s' hs
        obtain ⟨σ2, S2, e2⟩ := s'
        simp only [Option.some.injEq, Prod.mk.injEq] at h
        obtain ⟨rfl, rfl, rfl, _⟩ := h
        obtain ⟨e3, h3⟩ := evOps_any tl _ _ _ e5 hs
        exact ⟨e3, by simp only [h3]⟩
      · cases h
    · cases h
  | seq a b iha ihb =>
    intro σ S e x σ' S' e' e1 h
    simp only [codeW] at h ⊢
    cases ha : codeW ctx call fr a (σ, S, e) with
    | none => rw [ha] at h; cases h
    | some q =>
      obtain ⟨y, σ1, S1, e3⟩ := q
      rw [ha] at h
      obtain ⟨e4, h4⟩ := iha σ S e e1 ha
      rw [h4]
      cases y with
      | normal => exact ihb σ1 S1 e3 e4 h
      | exit i => simp only [Option.some.injEq, Prod.mk.injEq] at h ⊢; obtain ⟨rfl, rfl, rfl, _⟩ := h; exact ⟨e4, rfl, rfl, rfl, rfl⟩
      | ret => simp only [Option.some.injEq, Prod.mk.injEq] at h ⊢; obtain ⟨rfl, rfl, rfl, _⟩ := h; exact ⟨e4, rfl, rfl, rfl, rfl⟩
  | cond c a b iha ihb =>
    intro σ S e x σ' S' e' e1 h
    simp only [codeW] at h ⊢
    split at h
    · rename_i t ht
      split at h
      · rename_i htt; rw [if_pos htt]; exact iha σ S e e1 h
      · rename_i htt; rw [if_neg htt]; exact ihb σ S e e1 h
    · cases h
  | block id c ih =>
    intro σ S e x σ' S' e' e1 h
    simp only [codeW] at h ⊢
    cases ha : codeW ctx call fr c (σ, S, e) with
    | none => rw [ha] at h; cases h
    | some q =>
      obtain ⟨y, σ1, S1, e3⟩ := q
      rw [ha] at h
      obtain ⟨e4, h4⟩ := ih σ S e e1 ha
      rw [h4]
      cases y <;> (simp only [Option.some.injEq, Prod.mk.injEq] at h ⊢; obtain ⟨h1, rfl, rfl, _⟩ := h; exact ⟨e4, h1, rfl, rfl, rfl⟩)
  | loop c ih =>
    intro σ S e x σ' S' e' e1 h
    simp only [codeW] at h ⊢
    obtain ⟨k, hk⟩ := of_lim h
    obtain ⟨e2, h2⟩ := rounds_any (fun σ S e => ih σ S e) k σ S e e1 (hk k (Nat.le_refl _))
    exact ⟨e2, loopw_of h2⟩
  | exit id => intro σ S e x σ' S' e' e1 h; simp only [codeW, Option.some.injEq, Prod.mk.injEq] at h ⊢; obtain ⟨rfl, rfl, rfl, _⟩ := h; exact ⟨e1, rfl, rfl, rfl, rfl⟩
  | ret => intro σ S e x σ' S' e' e1 h; simp only [codeW, Option.some.injEq, Prod.mk.injEq] at h ⊢; obtain ⟨rfl, rfl, rfl, _⟩ := h; exact ⟨e1, rfl, rfl, rfl, rfl⟩

theorem WB.ofE {pf : PFn} {args : List PV} {K : PV → List SObj → Prop} {c : PC} {rs : List ResultVar} {n : Nat} {rw : Bool} (hpf : pf = ⟨n, rs, c, rw⟩)
    (h : WC env ⟨n, S.length⟩ c (fun i => args.getD i (.tup [])) S true (KB env ⟨n, rs, c, rw⟩ fun v S' _ => K v S')) : WB env pf args S (fun v S' _ => K v S') := by
  refine WB.of hpf ?_
  obtain ⟨x, σ', S', e', h1, h2⟩ := h
  obtain ⟨e2, h3⟩ := codeW_any c _ _ _ false h1
  refine ⟨x, σ', S', e2, h3, ?_⟩
  cases x with
  | normal => exact h2
  | exit i => exact h2
  | ret => exact h2

end Go.Pam
