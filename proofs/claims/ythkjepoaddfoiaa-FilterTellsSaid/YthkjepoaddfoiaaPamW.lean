/- The abstract machine without fuel: loops and calls to their end. -/
import Derived.Test.YthkjepoaddfoiaaPam15
namespace Go.Pam
set_option linter.unusedVariables false
set_option linter.unusedSimpArgs false

open Classical in
noncomputable def lim' {α : Type} (f : Nat → Option α) : Option α := if h : ∃ r k, ∀ k', k ≤ k' → f k' = some r then some h.choose else none

theorem lim_of {α : Type} {f : Nat → Option α} {r : α} (k : Nat) (h : ∀ k', k ≤ k' → f k' = some r) : lim' f = some r := by
  have hex : ∃ r k, ∀ k', k ≤ k' → f k' = some r := ⟨r, k, h⟩
  unfold lim'
  rw [dif_pos hex]
  obtain ⟨k2, h2⟩ := hex.choose_spec
  have a := h (k + k2) (by omega)
  have b := h2 (k + k2) (by omega)
  rw [a] at b; exact b.symm

theorem of_lim {α : Type} {f : Nat → Option α} {r : α} (h : lim' f = some r) : ∃ k, ∀ k', k ≤ k' → f k' = some r := by
  unfold lim' at h
  split at h
  · rename_i hex
    injection h with h
    have := hex.choose_spec
    rw [h] at this; exact this
  · cases h

noncomputable def loopw (body : St → Option (Ex × St)) (s : St) : Option (Ex × St) := lim' fun k => rounds body k s

theorem rounds_mono {body : St → Option (Ex × St)} : ∀ {k : Nat} {s : St} {r : Ex × St}, rounds body k s = some r → ∀ k', k ≤ k' → rounds body k' s = some r
  | 0, _, _, h => by cases h
  | k + 1, s, r, h => by
    intro k' hk'
    obtain ⟨j, rfl⟩ : ∃ j, k' = j + 1 := ⟨k' - 1, by omega⟩
    simp only [rounds] at h ⊢
    cases hb : body s with
    | none => rw [hb] at h; cases h
    | some q =>
      rw [hb] at h
      obtain ⟨x, s'⟩ := q
      cases x with
      | normal => exact rounds_mono (k := k) h j (by omega)
      | exit i => exact h
      | ret => exact h

theorem loopw_of {body : St → Option (Ex × St)} {k : Nat} {s : St} {r : Ex × St} (h : rounds body k s = some r) : loopw body s = some r := lim_of k (rounds_mono h)

theorem loopw_more {body : St → Option (Ex × St)} {s s' : St} {r : Ex × St} (h : body s = some (.normal, s')) (h2 : loopw body s' = some r) : loopw body s = some r := by
  obtain ⟨k, hk⟩ := of_lim h2
  refine loopw_of (k := k + 1) ?_
  simp only [rounds, h]
  exact hk k (Nat.le_refl _)

theorem loopw_exit {body : St → Option (Ex × St)} {s s' : St} {i : Nat} (h : body s = some (.exit i, s')) : loopw body s = some (.exit i, s') :=
  loopw_of (k := 1) (by simp only [rounds, h])

theorem loopw_ret {body : St → Option (Ex × St)} {s s' : St} (h : body s = some (.ret, s')) : loopw body s = some (.ret, s') :=
  loopw_of (k := 1) (by simp only [rounds, h])

noncomputable def evw (env : Env) (f : FuncId) (args : List PV) (S : List SObj) : Option (PV × List SObj × Bool) := lim' fun k => ev env k f args S

noncomputable def codeW (ctx : Ctx) (call : Call') (fr : Fr) : PC → St → Option (Ex × St)
  | .skip, s => some (.normal, s)
  | .region ops, s =>
    match evOps ctx call fr ops s.1 s.2.1 s.2.2 with
    | some s' => some (.normal, s')
    | none => none
  | .draw hd tl, s =>
    match evHead ctx call fr s.2.1 hd s.1 with
    | some σ =>
      match evOps ctx call fr tl σ s.2.1 s.2.2 with
      | some s' => some (.normal, s')
      | none => none
    | none => none
  | .drawC hd tl, s =>
    match evChain ctx call fr hd [] [] s.1 s.2.1 s.2.2 with
    | some s1 =>
      match evOps ctx call fr tl s1.1 s1.2.1 s1.2.2 with
      | some s' => some (.normal, s')
      | none => none
    | none => none
  | .seq a b, s =>
    match codeW ctx call fr a s with
    | some (.normal, s') => codeW ctx call fr b s'
    | r => r
  | .cond c a b, s =>
    match opd s.1 c with
    | .bool t => if t then codeW ctx call fr a s else codeW ctx call fr b s
    | _ => none
  | .block id c, s =>
    match codeW ctx call fr c s with
    | some (.exit i, s') => some (if i = id then .normal else .exit i, s')
    | r => r
  | .loop c, s => loopw (codeW ctx call fr c) s
  | .exit id, s => some (.exit id, s)
  | .ret, s => some (.ret, s)

theorem stepOp_lim {env : Env} {base : Nat} {σ : Nat → PV} {S : List SObj} {op : Op} {r : PV × List SObj × Bool} (h : evStep env.ctx (evw env) base σ S op = some r) :
    ∃ k, ∀ k', k ≤ k' → evStep env.ctx (ev env k') base σ S op = some r := by
  cases op
  case call c =>
    simp only [evStep] at h ⊢
    unfold callPV at h ⊢
    split at h
    all_goals try exact ⟨0, fun _ _ => h⟩
    · split at h
      · exact of_lim h
      · cases h
    · split at h
      · rename_i hm; exact of_lim h
      · cases h
  all_goals exact ⟨0, fun _ _ => h⟩

theorem step_lim {env : Env} {base : Nat} {σ : Nat → PV} {S : List SObj} {p : POp} {r : PV × List SObj × Bool} (h : evStepF env.ctx (evw env) base σ S p = some r) :
    ∃ k, ∀ k', k ≤ k' → evStepF env.ctx (ev env k') base σ S p = some r := by
  unfold evStepF at h ⊢
  simp only at h ⊢
  split at h
  · rename_i hw
    exact ⟨0, fun _ _ => by rw [if_pos hw]; exact h⟩
  · rename_i hw
    obtain ⟨k, hk⟩ := stepOp_lim h
    exact ⟨k, fun k' hk' => by rw [if_neg hw]; exact hk k' hk'⟩

theorem ops_lim {env : Env} {fr : Fr} : ∀ {l : List POp} {σ : Nat → PV} {S : List SObj} {e : Bool} {r : (Nat → PV) × List SObj × Bool}, evOps env.ctx (evw env) fr l σ S e = some r →
    ∃ k, ∀ k', k ≤ k' → evOps env.ctx (ev env k') fr l σ S e = some r
  | [], σ, S, e, r, h => ⟨0, fun _ _ => h⟩
  | p :: rest, σ, S, e, r, h => by
    simp only [evOps] at h ⊢
    split at h
    case isFalse => cases h
    rename_i hd
    simp only [hd, if_true]
    split at h
    · cases h
    · rename_i hw
      obtain ⟨k, hk⟩ := ops_lim h
      exact ⟨k, hk⟩
    · rename_i hw
      split at h
      · cases h
      rename_i v S' e' hs
      obtain ⟨k1, h1⟩ := step_lim hs
      obtain ⟨k2, h2⟩ := ops_lim h
      exact ⟨max k1 k2, fun k' hk' => by rw [h1 k' (by omega)]; exact h2 k' (by omega)⟩

theorem head_lim {env : Env} {fr : Fr} {S : List SObj} : ∀ {l : List POp} {σ : Nat → PV} {r : Nat → PV}, evHead env.ctx (evw env) fr S l σ = some r →
    ∃ k, ∀ k', k ≤ k' → evHead env.ctx (ev env k') fr S l σ = some r
  | [], σ, r, h => ⟨0, fun _ _ => h⟩
  | p :: rest, σ, r, h => by
    simp only [evHead] at h ⊢
    split at h
    case isFalse => cases h
    rename_i hd
    simp only [hd, if_true]
    split at h
    · cases h
    · rename_i hw
      obtain ⟨k, hk⟩ := head_lim h
      exact ⟨k, hk⟩
    · rename_i hw
      split at h
      · cases h
      rename_i v S' e' hs
      split at h
      case isFalse => cases h
      rename_i hsame
      obtain ⟨k1, h1⟩ := step_lim hs
      obtain ⟨k2, h2⟩ := head_lim h
      refine ⟨max k1 k2, fun k' hk' => ?_⟩
      rw [h1 k' (by omega)]
      simp only [hsame, if_true]
      exact h2 k' (by omega)

theorem chain_lim {env : Env} {fr : Fr} : ∀ {l : List POp} {hist : List (List SObj)} {pend : List (TypeId × PV × PV)} {σ : Nat → PV} {S : List SObj} {e : Bool} {r : (Nat → PV) × List SObj × Bool}, evChain env.ctx (evw env) fr l hist pend σ S e = some r →
    ∃ k, ∀ k', k ≤ k' → evChain env.ctx (ev env k') fr l hist pend σ S e = some r
  | [], _, _, σ, S, e, r, h => ⟨0, fun _ _ => h⟩
  | p :: rest, hist, pend, σ, S, e, r, h => by
    simp only [evChain] at h ⊢
    split at h
    case isFalse => cases h
    rename_i hd
    simp only [hd, if_true]
    split at h
    · cases h
    · rename_i hw
      obtain ⟨k, hk⟩ := chain_lim h
      exact ⟨k, hk⟩
    · rename_i hw
      split at h
      · cases h
      rename_i v S' e' hs
      obtain ⟨k1, h1⟩ := step_lim hs
      split at h
      · rename_i hch
        split at h
        case isFalse => cases h
        rename_i hp
        obtain ⟨k2, h2⟩ := chain_lim h
        refine ⟨max k1 k2, fun k' hk' => ?_⟩
        rw [h1 k' (by omega)]
        simp only [hch, if_true, if_pos hp]
        exact h2 k' (by omega)
      · rename_i hch
        split at h
        case isFalse => cases h
        rename_i hsame
        split at h
        · rename_i hin
          obtain ⟨k2, h2⟩ := chain_lim h
          refine ⟨max k1 k2, fun k' hk' => ?_⟩
          rw [h1 k' (by omega)]
          simp only [if_neg hch, hsame, hin, if_true]
          exact h2 k' (by omega)
        · rename_i hin
          split at h
          case h_2 => cases h
          rename_i t a hlo
          split at h
          case isFalse => cases h
          rename_i hall
          obtain ⟨k2, h2⟩ := chain_lim h
          refine ⟨max k1 k2, fun k' hk' => ?_⟩
          rw [h1 k' (by omega)]
          simp only [if_neg hch, hsame, if_true, if_neg hin, hlo, if_pos hall]
          exact h2 k' (by omega)

theorem rounds_lim {body : St → Option (Ex × St)} {bk : Nat → St → Option (Ex × St)} (hb : ∀ s r, body s = some r → ∃ k, ∀ k', k ≤ k' → bk k' s = some r) :
    ∀ {n : Nat} {s : St} {r : Ex × St}, rounds body n s = some r → ∃ k, ∀ k', k ≤ k' → ∀ m, n ≤ m → rounds (bk k') m s = some r
  | 0, _, _, h => by cases h
  | n + 1, s, r, h => by
    simp only [rounds] at h
    cases hs : body s with
    | none => rw [hs] at h; cases h
    | some q =>
      obtain ⟨k1, h1⟩ := hb s q hs
      rw [hs] at h
      obtain ⟨x, s'⟩ := q
      cases x with
      | normal =>
        obtain ⟨k2, h2⟩ := rounds_lim hb (n := n) h
        refine ⟨max k1 k2, fun k' hk' m hm => ?_⟩
        obtain ⟨j, rfl⟩ : ∃ j, m = j + 1 := ⟨m - 1, by omega⟩
        simp only [rounds, h1 k' (by omega)]
        exact h2 k' (by omega) j (by omega)
      | exit i =>
        refine ⟨k1, fun k' hk' m hm => ?_⟩
        obtain ⟨j, rfl⟩ : ∃ j, m = j + 1 := ⟨m - 1, by omega⟩
        simp only [rounds, h1 k' hk']
        exact h
      | ret =>
        refine ⟨k1, fun k' hk' m hm => ?_⟩
        obtain ⟨j, rfl⟩ : ∃ j, m = j + 1 := ⟨m - 1, by omega⟩
        simp only [rounds, h1 k' hk']
        exact h

theorem code_lim {env : Env} {fr : Fr} : ∀ (c : PC) (s : St) (r : Ex × St), codeW env.ctx (evw env) fr c s = some r →
    ∃ k, ∀ k', k ≤ k' → evCode env.ctx (ev env k') fr k' c s = some r
  | .skip, _, _, h => ⟨0, fun _ _ => h⟩
  | .region ops, s, r, h => by
    simp only [codeW] at h
    split at h
    · rename_i s' hs
      obtain ⟨k, hk⟩ := ops_lim hs
      exact ⟨k, fun k' hk' => by simp only [evCode, hk k' hk']; exact h⟩
    · cases h
  | .draw hd tl, s, r, h => by
    simp only [codeW] at h
    split at h
    case h_2 => cases h
    rename_i σ hσ
    split at h
    case h_2 => cases h
    rename_i s' hs
    obtain ⟨k1, h1⟩ := head_lim hσ
    obtain ⟨k2, h2⟩ := ops_lim hs
    exact ⟨max k1 k2, fun k' hk' => by simp only [evCode, h1 k' (by omega), h2 k' (by omega)]; exact h⟩
  | .drawC hd tl, s, r, h => by
    simp only [codeW] at h
    split at h
    case h_2 => cases h
    rename_i s1 hσ
    split at h
    case h_2 => cases h
    rename_i s' hs
    obtain ⟨k1, h1⟩ := chain_lim hσ
    obtain ⟨k2, h2⟩ := ops_lim hs
    exact ⟨max k1 k2, fun k' hk' => by simp only [evCode, h1 k' (by omega), h2 k' (by omega)]; exact h⟩
  | .seq a b, s, r, h => by
    simp only [codeW] at h
    split at h
    · rename_i s' hs
      obtain ⟨k1, h1⟩ := code_lim a s _ hs
      obtain ⟨k2, h2⟩ := code_lim b s' _ h
      exact ⟨max k1 k2, fun k' hk' => by simp only [evCode, h1 k' (by omega), h2 k' (by omega)]⟩
    · rename_i hne
      obtain ⟨k1, h1⟩ := code_lim a s _ h
      refine ⟨k1, fun k' hk' => ?_⟩
      simp only [evCode, h1 k' hk']
      obtain ⟨x, s'⟩ := r
      cases x with
      | normal => exact absurd h (hne _)
      | exit i => rfl
      | ret => rfl
  | .cond c a b, s, r, h => by
    simp only [codeW] at h
    split at h
    · rename_i t ht
      cases t with
      | true =>
        obtain ⟨k, hk⟩ := code_lim a s r h
        exact ⟨k, fun k' hk' => by simp only [evCode, ht]; exact hk k' hk'⟩
      | false =>
        obtain ⟨k, hk⟩ := code_lim b s r h
        exact ⟨k, fun k' hk' => by simp only [evCode, ht]; exact hk k' hk'⟩
    · cases h
  | .block id c, s, r, h => by
    simp only [codeW] at h
    split at h
    · rename_i i s' hs
      obtain ⟨k1, h1⟩ := code_lim c s _ hs
      exact ⟨k1, fun k' hk' => by simp only [evCode, h1 k' hk']; exact h⟩
    · rename_i hne
      obtain ⟨k1, h1⟩ := code_lim c s _ h
      refine ⟨k1, fun k' hk' => ?_⟩
      simp only [evCode, h1 k' hk']
      obtain ⟨x, s'⟩ := r
      cases x with
      | normal => rfl
      | exit i => exact absurd h (hne _ _)
      | ret => rfl
  | .loop c, s, r, h => by
    simp only [codeW] at h
    obtain ⟨n, hn⟩ := of_lim h
    obtain ⟨k, hk⟩ := rounds_lim (bk := fun k' => evCode env.ctx (ev env k') fr k' c) (fun s r hs => code_lim c s r hs) (hn n (Nat.le_refl _))
    exact ⟨max k n, fun k' hk' => by simp only [evCode]; exact hk k' (by omega) k' (by omega)⟩
  | .exit id, _, _, h => ⟨0, fun _ _ => h⟩
  | .ret, _, _, h => ⟨0, fun _ _ => h⟩

noncomputable def bodyW (ctx : Ctx) (call : Call') (pf : PFn) (args : List PV) (S : List SObj) : Option (PV × List SObj × Bool) :=
  match codeW ctx call ⟨pf.ntmps, S.length⟩ pf.body (fun i => args.getD i (.tup []), S, false) with
  | some (.exit _, _) => none
  | some (_, (σ, S', e)) =>
    match resultsOf ctx S' σ pf.results with
    | some vs => if pf.raw then some (tupled vs, S', e) else some (tupled (frzL vs S').1, (frzL vs S').2, e)
    | none => none
  | none => none

theorem body_lim {env : Env} {pf : PFn} {args : List PV} {S : List SObj} {r : PV × List SObj × Bool} (h : bodyW env.ctx (evw env) pf args S = some r) :
    ∃ k, ∀ k', k ≤ k' → runBody env.ctx (ev env k') k' pf args S = some r := by
  unfold bodyW at h
  split at h
  · cases h
  · rename_i x σ S' e hne hs
    obtain ⟨k, hk⟩ := code_lim _ _ _ hs
    refine ⟨k, fun k' hk' => ?_⟩
    unfold runBody
    rw [hk k' hk']
    cases x with
    | normal => exact h
    | exit i => exact absurd rfl (hne i)
    | ret => exact h
  · cases h

def Known (l : List (Nat × PV)) (σ : Nat → PV) : Prop := ∀ p ∈ l, σ p.1 = p.2

def put : List (Nat × PV) → (Nat → PV) → Nat → PV
  | [], σ => σ
  | p :: l, σ => fun i => if i = p.1 then p.2 else put l σ i

theorem put_known {σ : Nat → PV} : ∀ {l : List (Nat × PV)}, Known l σ → put l σ = σ
  | [], _ => rfl
  | p :: l, h => by
    funext i
    simp only [put, put_known (fun q hq => h q (List.mem_cons_of_mem _ hq))]
    split
    · rename_i he; rw [he]; exact (h p List.mem_cons_self).symm
    · rfl

theorem known_nil {σ : Nat → PV} : Known [] σ := fun p hp => by cases hp
theorem known_cons {σ : Nat → PV} {i : Nat} {v : PV} {l : List (Nat × PV)} (h : σ i = v) (hl : Known l σ) : Known ((i, v) :: l) σ := fun p hp => by
  rcases List.mem_cons.1 hp with rfl | hp
  · exact h
  · exact hl p hp

theorem evw_of {env : Env} {f : FuncId} {args : List PV} {S : List SObj} {r : PV × List SObj × Bool} (h : evw env f args S = some r) : ∃ k, ev env k f args S = some r := by
  obtain ⟨k, hk⟩ := of_lim h
  exact ⟨k, hk k (Nat.le_refl _)⟩

abbrev KV := PV → List SObj → Bool → Prop
abbrev KS := (Nat → PV) → List SObj → Bool → Prop

mutual
theorem PV.same_refl : ∀ (x : PV), PV.same x x = true
  | .poison => rfl
  | .bool b => by simp [PV.same]
  | .int k n => by simp [PV.same]
  | .str s => by simp [PV.same]
  | .nilp => rfl
  | .ptr a b => by simp [PV.same]
  | .iptr a b => by simp [PV.same, sameL_refl a]
  | .nils => rfl
  | .lst a t => by simp [PV.same, sameL_refl a]
  | .hsl a b c => by simp [PV.same]
  | .emp => by simp [PV.same]
  | .rsl a b => by simp [PV.same]
  | .nilm => rfl
  | .map a => by simp [PV.same]
  | .nilf => rfl
  | .fn f a b => by simp [PV.same, sameL_refl a, sameL_refl b]
  | .nili => rfl
  | .ifc t v => by simp [PV.same, PV.same_refl v]
  | .agg a => by simp [PV.same, sameL_refl a]
  | .tup a => by simp [PV.same, sameL_refl a]
theorem sameL_refl : ∀ (x : List PV), sameL x x = true
  | [] => rfl
  | x :: xs => by simp [sameL, PV.same_refl x, sameL_refl xs]
end

theorem sameKV_refl : ∀ (x : List (PV × PV)), sameKV x x = true
  | [] => rfl
  | x :: xs => by simp [sameKV, PV.same_refl, sameKV_refl xs]

theorem sameS_refl : ∀ (S : List SObj), sameS S S = true
  | [] => rfl
  | x :: xs => by
    simp only [sameS, sameS_refl xs, Bool.and_true]
    cases x <;> simp [SObj.same, sameL_refl, sameKV_refl]

def eqBF (ctx : Ctx) (eq : TypeId → PV → PV → Option Bool) : List Field → List PV → List PV → Option Bool
  | [], _, _ => some true
  | f :: fs, xs, ys =>
    if f.name = "_" then eqBF ctx eq fs xs ys else
      match partOf ctx f.type xs f.offset, partOf ctx f.type ys f.offset with
      | some a, some b =>
        match eq f.type a b, eqBF ctx eq fs xs ys with
        | some p, some q => some (p && q)
        | _, _ => none
      | _, _ => none

def eqB (ctx : Ctx) : Nat → TypeId → PV → PV → Option Bool
  | 0, _, _, _ => none
  | d + 1, t, x, y =>
    match ctx.ty t with
    | none => none
    | some ti =>
      match ti.und, x, y with
      | .struct fields, .agg xs, .agg ys => if ti.eqok then eqBF ctx (eqB ctx d) fields.toList xs ys else none
      | _, x, y => eqIn ctx (d + 1) t x y

theorem eqBF_ok (ctx : Ctx) {e1 e2 : TypeId → PV → PV → Option Bool} (h12 : ∀ t x y b, e1 t x y = some b → e2 t x y = some b) : ∀ (fs : List Field) (xs ys : List PV) (b : Bool), eqBF ctx e1 fs xs ys = some b → eqFields ctx e2 fs xs ys = some b
  | [], xs, ys, b, h => h
  | f :: fs, xs, ys, b, h => by
    unfold eqBF at h
    unfold eqFields
    by_cases hf : f.name = "_"
    · rw [if_pos hf] at h ⊢
      exact eqBF_ok ctx h12 fs xs ys b h
    · rw [if_neg hf] at h ⊢
      split at h
      · rename_i a c ha hc
        split at h
        · rename_i p q hp hq
          injection h with h; subst h
          have h1 := h12 _ _ _ _ hp
          have h2 := eqBF_ok ctx h12 fs xs ys _ hq
          simp only [ha, hc, h1]
          cases p
          · rfl
          · simpa using h2
        · cases h
      · cases h

theorem eqB_ok (ctx : Ctx) : ∀ (d : Nat) (t : TypeId) (x y : PV) (b : Bool), eqB ctx d t x y = some b → eqIn ctx d t x y = some b
  | 0, _, _, _, _, h => by simp [eqB] at h
  | d + 1, t, x, y, b, h => by
    unfold eqB at h
    cases ht : ctx.ty t with
    | none => rw [ht] at h; cases h
    | some ti =>
      rw [ht] at h
      simp only at h
      split at h
      · rename_i fields xs ys hu
        split at h
        case isFalse => cases h
        rename_i he
        unfold eqIn
        simp only [ht, hu, he, if_true]
        exact eqBF_ok ctx (eqB_ok ctx d) _ _ _ _ h
      · exact h
end Go.Pam
