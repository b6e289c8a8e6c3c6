/- Runs of regions some of whose operations turn the store. -/
import Derived.Test.YthkjepoaddfoiaaPam30
namespace Go.Pam
set_option linter.unusedVariables false
set_option linter.unusedSimpArgs false
variable {env : Env} {fr : Fr} {σ : Nat → PV} {S : List SObj} {S0 : List SObj} {R : List Nat} {C : List (Nat × SObj)} {A : List (PV × Nat)} {W : List (PV × SObj)}

def WK (env : Env) (fr : Fr) (ops : List POp) (hist : List (List SObj)) (pend : List (TypeId × PV × PV)) (σ : Nat → PV) (S : List SObj) (e : Bool) (K : KS) : Prop :=
  PendOk env.ctx pend S → ∃ σ' S' e', evChain env.ctx (evw env) fr ops hist pend σ S e = some (σ', S', e') ∧ K σ' S' e'

variable {wr : Bool} {hist : List (List SObj)} {pend : List (TypeId × PV × PV)} {rest : List POp} {op : Op} {d : Option Nat} {e : Bool} {K : KS} {v : PV}

theorem pend_nil {ctx : Ctx} : PendOk ctx [] S := fun q hq => by cases hq
theorem pend_cons {ctx : Ctx} {t : TypeId} {a : PV} (h : loadPV ctx t a S = some v) (hp : PendOk ctx pend S) : PendOk ctx ((t, a, v) :: pend) S := by
  intro q hq
  rcases List.mem_cons.1 hq with rfl | hq
  · exact h
  · exact hp q hq
theorem hist_nil {p : List SObj → Prop} : ∀ T ∈ ([] : List (List SObj)), p T := fun T hT => by cases hT
theorem hist_cons {p : List SObj → Prop} (h : p S) (hh : ∀ T ∈ hist, p T) : ∀ T ∈ S :: hist, p T := by
  intro T hT
  rcases List.mem_cons.1 hT with rfl | hT
  · exact h
  · exact hh T hT
theorem ld {ctx : Ctx} {t : TypeId} {id off : Nat} {cs : List PV} (hg : S[id]? = some (.cells cs)) (hp : partOf ctx t cs off = some v) : loadPV ctx t (.ptr id off) S = some v := by
  simp only [loadPV, hg, hp]

theorem WK.nil (h : K σ S e) : WK env fr [] hist pend σ S e K := fun _ => ⟨_, _, _, rfl, h⟩

theorem WK.go0 {t : Nat} {want b : Bool} (hb : σ t = .bool b) (hw : (b == want) = true)
    (h : WK env fr (⟨d, op, none, wr⟩ :: rest) hist pend σ S e K) : WK env fr (⟨d, op, some (t, want), wr⟩ :: rest) hist pend σ S e K := by
  intro hp
  obtain ⟨σ1, S1, e1, h1, h2⟩ := h hp
  refine ⟨σ1, S1, e1, ?_, h2⟩
  unfold evChain at h1 ⊢
  simp only [wantedPV, hb, hw] at h1 ⊢
  exact h1

theorem WK.by {t : Nat} {want b : Bool} (hd : dstOk fr.ntmps d = true) (hb : σ t = .bool b) (hw : (b == want) = false) (h : WK env fr rest hist pend (upd σ d (.tup [])) S e K) : WK env fr (⟨d, op, some (t, want), wr⟩ :: rest) hist pend σ S e K := by
  intro hp
  obtain ⟨σ1, S1, e1, h1, h2⟩ := h hp
  refine ⟨σ1, S1, e1, ?_, h2⟩
  unfold evChain
  simp only [hd, if_true, wantedPV, hb, hw]
  exact h1

theorem WK.by0 {t : Nat} {want : Bool} (hd : dstOk fr.ntmps d = true) (hb : σ t = .tup []) (h : WK env fr rest hist pend (upd σ d (.tup [])) S e K) : WK env fr (⟨d, op, some (t, want), wr⟩ :: rest) hist pend σ S e K := by
  intro hp
  obtain ⟨σ1, S1, e1, h1, h2⟩ := h hp
  refine ⟨σ1, S1, e1, ?_, h2⟩
  unfold evChain
  simp only [hd, if_true, wantedPV, hb]
  exact h1

theorem WK.step {S' : List SObj} {e' : Bool} (hd : dstOk fr.ntmps d = true) (hs : stF env fr σ S ⟨d, op, none, wr⟩ = some (v, S', e')) (hS : S' = S) (he : e' = false) (hc : chained ⟨d, op, none, wr⟩ = false) (hi : indep env.ctx σ ⟨d, op, none, wr⟩ = true)
    (h : WK env fr rest hist pend (upd σ d v) S e K) : WK env fr (⟨d, op, none, wr⟩ :: rest) hist pend σ S e K := by
  intro hp
  obtain ⟨σ1, S1, e1, h1, h2⟩ := h hp
  refine ⟨σ1, S1, e1, ?_, h2⟩
  unfold evChain
  simp only [hd, if_true, wantedPV]
  unfold stF at hs
  rw [hs]
  simp only [hc, Bool.false_eq_true, if_false, same_of hS he, if_true, hi]
  exact h1

theorem WK.ex1 {P : PV → Prop} (hd : dstOk fr.ntmps d = true) (hs : ∃ v', stF env fr σ S ⟨d, op, none, wr⟩ = some (v', S, false) ∧ P v') (hc : chained ⟨d, op, none, wr⟩ = false) (hi : indep env.ctx σ ⟨d, op, none, wr⟩ = true)
    (h : ∀ v', P v' → WK env fr rest hist pend (upd σ d v') S e K) : WK env fr (⟨d, op, none, wr⟩ :: rest) hist pend σ S e K := by
  obtain ⟨v', h1, h2⟩ := hs
  exact WK.step hd h1 rfl rfl hc hi (h _ h2)

theorem evChain_hist {ctx : Ctx} {call : Call'} : ∀ (l : List POp) (hist hist' : List (List SObj)) (pend : List (TypeId × PV × PV)) (σ : Nat → PV) (S : List SObj) (e : Bool) (r : (Nat → PV) × List SObj × Bool),
    evChain ctx call fr l hist pend σ S e = some r → (∀ T ∈ hist', T ∈ hist ∨ T = S) → evChain ctx call fr l hist' pend σ S e = some r
  | [], _, _, _, _, _, _, _, h, _ => h
  | p :: l, hist, hist', pend, σ, S, e, r, h, hh => by
    simp only [evChain] at h ⊢
    split at h
    case isFalse => cases h
    rename_i hd
    simp only [hd, if_true]
    split at h
    · cases h
    · exact evChain_hist l hist hist' _ _ _ _ _ h hh
    · split at h
      · cases h
      rename_i v S' e' hs
      split at h
      · rename_i hch
        split at h
        case isFalse => cases h
        rename_i hpp
        simp only [hch, if_true, if_pos hpp]
        refine evChain_hist l _ _ _ _ _ _ _ h fun T hT => ?_
        rcases List.mem_cons.1 hT with rfl | hT
        · exact .inl List.mem_cons_self
        · rcases hh T hT with h1 | rfl
          · exact .inl (List.mem_cons_of_mem _ h1)
          · exact .inl List.mem_cons_self
      · rename_i hch
        simp only [if_neg hch]
        split at h
        case isFalse => cases h
        rename_i hsame
        simp only [hsame, if_true]
        split at h
        · rename_i hin
          simp only [hin, if_true]
          exact evChain_hist l _ _ _ _ _ _ _ h hh
        · rename_i hin
          simp only [if_neg hin]
          split at h
          case h_2 => cases h
          rename_i t a hlo
          split at h
          case isFalse => cases h
          rename_i hall
          have hwr : p.wr = false := by
            unfold chained at hch
            cases hw : p.wr with
            | false => rfl
            | true => rw [hw] at hch; exact absurd rfl hch
          have hop : ∃ x, p.op = .load t x ∧ opd σ x = a := by
            revert hlo
            generalize p.op = o
            intro hlo
            cases o <;> simp only [loadOf, reduceCtorEq] at hlo
            injection hlo with hlo; injection hlo with h1 h2
            subst h1
            exact ⟨_, rfl, h2⟩
          obtain ⟨x, hop, hx⟩ := hop
          have hv : loadPV ctx t a S = some v := by
            unfold evStepF at hs
            rw [hop, hwr] at hs
            simp only [frzArgs, frzT, Bool.false_eq_true, if_false, evStep, hx] at hs
            cases hq : loadPV ctx t a S with
            | none => rw [hq] at hs; cases hs
            | some y => rw [hq] at hs; simp at hs; rw [hs.1]
          have hall' : ∀ T ∈ hist', loadPV ctx t a T = some v := by
            intro T hT
            rcases hh T hT with h1 | rfl
            · exact hall T h1
            · exact hv
          simp only [if_pos hall']
          exact evChain_hist l _ _ _ _ _ _ _ h hh

theorem WK.callP (hd : dstOk fr.ntmps d = true) (hs : stF env fr σ S ⟨d, op, none, wr⟩ = some (v, S, false)) (hc : chained ⟨d, op, none, wr⟩ = true)
    (h : WK env fr rest hist pend (upd σ d v) S (e || false) K) : WK env fr (⟨d, op, none, wr⟩ :: rest) hist pend σ S e K := by
  intro hp
  obtain ⟨σ1, S1, e1, h1, h2⟩ := h hp
  refine ⟨σ1, S1, e1, ?_, h2⟩
  unfold evChain
  simp only [hd, if_true, wantedPV]
  unfold stF at hs
  rw [hs]
  simp only [hc, if_true, if_pos hp]
  refine evChain_hist _ _ _ _ _ _ _ _ h1 fun T hT => ?_
  rcases List.mem_cons.1 hT with rfl | hT
  · exact .inr rfl
  · exact .inl hT

theorem WK.turn {S' : List SObj} {e' : Bool} (hd : dstOk fr.ntmps d = true) (hs : stF env fr σ S ⟨d, op, none, wr⟩ = some (v, S', e')) (hc : chained ⟨d, op, none, wr⟩ = true)
    (h : PendOk env.ctx pend S' ∧ WK env fr rest (S :: hist) pend (upd σ d v) S' (e || e') K) : WK env fr (⟨d, op, none, wr⟩ :: rest) hist pend σ S e K := by
  intro _
  obtain ⟨σ1, S1, e1, h1, h2⟩ := h.2 h.1
  refine ⟨σ1, S1, e1, ?_, h2⟩
  unfold evChain
  simp only [hd, if_true, wantedPV]
  unfold stF at hs
  rw [hs]
  simp only [hc, if_true, if_pos h.1]
  exact h1

theorem WK.ex {P : PV → List SObj → Prop} (hd : dstOk fr.ntmps d = true) (hs : ∃ v' S', stF env fr σ S ⟨d, op, none, wr⟩ = some (v', S', false) ∧ P v' S') (hc : chained ⟨d, op, none, wr⟩ = true)
    (h : ∀ v' S', P v' S' → PendOk env.ctx pend S' ∧ WK env fr rest (S :: hist) pend (upd σ d v') S' (e || false) K) : WK env fr (⟨d, op, none, wr⟩ :: rest) hist pend σ S e K := by
  obtain ⟨v', S', h1, h2⟩ := hs
  exact WK.turn hd h1 hc (h _ _ h2)

theorem WK.callR (j : Nat) {f : FuncId} {o : Operand} {args : Array Operand} {ts : Array TypeId} {cap vs cs cs' : List PV} {id : Nat} (hd : dstOk fr.ntmps d = true)
    (hf : opd σ o = .fn (.func f) [] cap) (ha : args.toList.map (opd σ) ++ cap = vs) (hz : frzT (frzArgs env.ctx σ (.call ⟨.value o, args, ts⟩)) σ S = (σ, S)) (H : Hp S0 R S C A W) (hj : C[j]? = some (id, .cells cs)) (hc : evw env f vs S = some (v, S.set id (.cells cs'), false))
    (h : ∀ S', Hp S0 R S' (C.set j (id, .cells cs')) A W → PendOk env.ctx pend S' ∧ WK env fr rest (S :: hist) pend (upd σ d v) S' (e || false) K) : WK env fr (⟨d, .call ⟨.value o, args, ts⟩, none, false⟩ :: rest) hist pend σ S e K :=
  WK.turn hd (nz hz (stp_call hf ha hc)) rfl (h _ (H.set j hj cs'))

theorem WK.callN {f : FuncId} {o : Operand} {args : Array Operand} {ts : Array TypeId} {cap vs cs : List PV} (hd : dstOk fr.ntmps d = true)
    (hf : opd σ o = .fn (.func f) [] cap) (ha : args.toList.map (opd σ) ++ cap = vs) (hz : frzT (frzArgs env.ctx σ (.call ⟨.value o, args, ts⟩)) σ S = (σ, S)) (H : Hp S0 R S C A W) (hc : ∃ i S', evw env f vs S = some (.ptr i 0, S', false) ∧ Hp S [] S' [(i, .cells cs)] [] [])
    (h : ∀ i S', S0.length ≤ i → Hp S0 R S' ((i, .cells cs) :: C) A W → PendOk env.ctx pend S' ∧ WK env fr rest (S :: hist) pend (upd σ d (.ptr i 0)) S' (e || false) K) : WK env fr (⟨d, .call ⟨.value o, args, ts⟩, none, false⟩ :: rest) hist pend σ S e K := by
  obtain ⟨i, S', h1, N⟩ := hc
  have := N.new_lt
  have := H.len
  exact WK.turn hd (nz hz (stp_call hf ha h1)) rfl (h i S' (by omega) (H.callNew N))

theorem WK.load {t : TypeId} {a : Operand} {id off : Nat} (hd : dstOk fr.ntmps d = true) (ha : opd σ a = .ptr id off) (hv : loadPV env.ctx t (.ptr id off) S = some v) (hh : ∀ T ∈ hist, loadPV env.ctx t (.ptr id off) T = some v)
    (h : WK env fr rest hist ((t, .ptr id off, v) :: pend) (upd σ d v) S e K) : WK env fr (⟨d, .load t a, none, false⟩ :: rest) hist pend σ S e K := by
  intro hp
  obtain ⟨σ1, S1, e1, h1, h2⟩ := h (pend_cons hv hp)
  refine ⟨σ1, S1, e1, ?_, h2⟩
  unfold evChain
  simp only [hd, if_true, wantedPV, evStepF, frzArgs, frzT, evStep, ha, hv, Option.map_some, chained, chainedOp, Bool.or_false, Bool.false_eq_true, if_false, sameS_refl, Bool.and_true, if_true, indep, indepOp, Bool.not_false, Bool.true_and, Bool.false_and, loadOf, if_pos hh]
  exact h1

theorem WC.drawC {hd tl : List POp} {K : KX} (h : WK env fr hd [] [] σ S e fun σ' S' e' => WO env fr tl σ' S' e' fun σ' S' e' => K .normal σ' S' e') : WC env fr (.drawC hd tl) σ S e K := by
  obtain ⟨σ1, S1, e1, h1, σ2, S2, e2, h2, h3⟩ := h pend_nil
  refine ⟨_, _, _, _, ?_, h3⟩
  simp only [codeW, h1, h2]

theorem WC.drawJ {hd tl : List POp} {K : KX} (P : KS) (h : WK env fr hd [] [] σ S e fun σ' S' e' => WO env fr tl σ' S' e' P) (h2 : ∀ σ' S' e', P σ' S' e' → K .normal σ' S' e') : WC env fr (.drawC hd tl) σ S e K :=
  WC.drawC (fun hp => by
    obtain ⟨σ1, S1, e1, h3, h4⟩ := h hp
    exact ⟨σ1, S1, e1, h3, h4.mono fun _ _ _ h => h2 _ _ _ h⟩)
end Go.Pam
