/- Regions whose order is left open: what they come to. -/
import Derived.Test.YthkjepoaddfoiaaPam14
namespace Go.Pam
set_option linter.unusedVariables false
set_option linter.unusedSimpArgs false

theorem sameKV_eq : ∀ (x y : List (PV × PV)), sameKV x y = true → x = y
  | [], y, h => by cases y <;> simp_all [sameKV]
  | (a, b) :: xs, y, h => by
    cases y with
    | nil => simp [sameKV] at h
    | cons q ys =>
      obtain ⟨c, d⟩ := q
      simp only [sameKV, Bool.and_eq_true] at h
      rw [PV.same_eq a _ h.1.1, PV.same_eq b _ h.1.2, sameKV_eq xs _ h.2]

theorem sameS_eq : ∀ (x y : List SObj), sameS x y = true → x = y
  | [], y, h => by cases y <;> simp_all [sameS]
  | x :: xs, y, h => by
    cases y with
    | nil => simp [sameS] at h
    | cons y ys =>
      simp only [sameS, Bool.and_eq_true] at h
      rw [sameS_eq xs _ h.2]
      have h1 := h.1
      cases x <;> cases y <;> simp only [SObj.same, Bool.and_eq_true, reduceCtorEq] at h1
      · rw [sameL_eq _ _ h1]
      · rw [sameKV_eq _ _ h1]
      · rw [beq_iff_eq.1 h1.1, beq_iff_eq.1 h1.2]
      · rfl
      · rw [sameL_eq _ _ h1.1.1, beq_iff_eq.1 h1.1.2, beq_iff_eq.1 h1.2]
      · rw [beq_iff_eq.1 h1.1.1, beq_iff_eq.1 h1.1.2, beq_iff_eq.1 h1.2]
      · rw [beq_iff_eq.1 h1.1, beq_iff_eq.1 h1.2]

theorem opd_congr {σ σ' : Nat → PV} {x : Operand} (h : ∀ t, x = .tmp t → σ t = σ' t) : opd σ x = opd σ' x := by
  cases x <;> first | rfl | exact h _ rfl

theorem callPV_congr {ctx : Ctx} {call : Call'} {σ σ' : Nat → PV} {S : List SObj} (c : Go.Call) (h : ∀ x ∈ c.operands, opd σ x = opd σ' x) : callPV ctx call σ S c = callPV ctx call σ' S c := by
  have hargs : c.args.toList.map (opd σ) = c.args.toList.map (opd σ') := List.map_congr_left fun x hx => h x (by simp [Call.operands]; exact .inr (by simpa using hx))
  unfold callPV
  rw [hargs]
  cases hc : c.callee with
  | value f => have hf : opd σ f = opd σ' f := h f (by simp [Call.operands, hc]); simp only [hf]
  | invoke r m => have hr : opd σ r = opd σ' r := h r (by simp [Call.operands, hc]); simp only [hr]
  | builtin b => cases b <;> rfl

theorem evStep_congr {ctx : Ctx} {call : Call'} {base : Nat} {σ σ' : Nat → PV} {S : List SObj} (op : Op) (h : ∀ x ∈ op.operands, opd σ x = opd σ' x) : evStep ctx call base σ S op = evStep ctx call base σ' S op := by
  have pairs : ∀ ps : Array (Nat × Operand), (∀ x ∈ ps.map (·.2), opd σ x = opd σ' x) →
      (ps.toList.map fun p => (p.1, opd σ p.2)) = (ps.toList.map fun p => (p.1, opd σ' p.2)) := fun ps hp =>
    List.map_congr_left fun p hm => by
      rw [hp p.2 (Array.mem_map.2 ⟨p, by simpa using hm, rfl⟩)]
  cases op <;> simp only [Op.operands] at h <;> simp only [evStep]
  case build t ps => rw [pairs ps fun x hx => h x (by simpa using hx)]
  case buildSlice t n ps => rw [pairs ps fun x hx => h x (by simpa using hx)]
  case makeFunc fn first captured =>
    rw [List.map_congr_left (l := first.toList) fun x hx => h x (by simp at hx; simp [hx]), List.map_congr_left (l := captured.toList) fun x hx => h x (by simp at hx; simp [hx])]
  case call c => exact callPV_congr c h
  case slice t x lo hi mx => cases lo <;> cases hi <;> cases mx <;> simp_all
  all_goals (first | rfl | (simp_all; done))

theorem frzArgs_mem {ctx : Ctx} {σ : Nat → PV} (op : Op) : ∀ x ∈ frzArgs ctx σ op, x ∈ op.operands := by
  intro x hx
  cases op <;> simp only [frzArgs, Op.operands] at hx ⊢ <;> try (simp at hx; done)
  all_goals try (simp_all; done)
  case call c =>
    have harg : ∀ y ∈ c.args.toList, y ∈ c.operands := fun y hy => by simp [Call.operands]; exact .inr (by simpa using hy)
    cases hc : c.callee with
    | value f =>
      simp only [hc] at hx
      split at hx
      · split at hx
        · cases hx
        · exact harg x hx
      · exact harg x hx
    | invoke r m => simp only [hc] at hx; exact harg x hx
    | builtin b =>
      simp only [hc] at hx
      cases b <;> simp only at hx <;> first | (cases hx; done) | exact harg x (List.mem_of_mem_drop hx)

theorem frzArgs_congr {ctx : Ctx} {σ σ' : Nat → PV} (op : Op) (h : ∀ x ∈ op.operands, opd σ x = opd σ' x) : frzArgs ctx σ op = frzArgs ctx σ' op := by
  cases op <;> try rfl
  case call c =>
    simp only [frzArgs]
    cases hc : c.callee with
    | value f =>
      have hf : opd σ f = opd σ' f := h f (by simp [Op.operands, Call.operands, hc])
      simp only [hf]
    | invoke r m => rfl
    | builtin b => cases b <;> rfl

theorem frzT_congr {L : List Operand} : ∀ (xs : List Operand) (σ σ' : Nat → PV) (S : List SObj), (∀ x ∈ xs, x ∈ L) → (∀ x ∈ L, opd σ x = opd σ' x) →
    (frzT xs σ S).2 = (frzT xs σ' S).2 ∧ ∀ x ∈ L, opd (frzT xs σ S).1 x = opd (frzT xs σ' S).1 x
  | [], _, _, _, _, h => ⟨rfl, h⟩
  | .tmp t :: xs, σ, σ', S, hx, h => by
    have ht : σ t = σ' t := h (.tmp t) (hx _ List.mem_cons_self)
    simp only [frzT, ht]
    split
    case h_2 => exact frzT_congr xs σ σ' S (fun x hm => hx x (List.mem_cons_of_mem _ hm)) h
    refine frzT_congr xs _ _ _ (fun x hm => hx x (List.mem_cons_of_mem _ hm)) (fun x hm => ?_)
    cases x with
    | tmp s =>
      have := h (.tmp s) hm
      simp only [opd, upd] at this ⊢
      split
      · rfl
      · exact this
    | const v => rfl
    | global i => rfl
    | func f => rfl
  | .const _ :: xs, σ, σ', S, hx, h => frzT_congr xs σ σ' S (fun x hm => hx x (List.mem_cons_of_mem _ hm)) h
  | .global _ :: xs, σ, σ', S, hx, h => frzT_congr xs σ σ' S (fun x hm => hx x (List.mem_cons_of_mem _ hm)) h
  | .func _ :: xs, σ, σ', S, hx, h => frzT_congr xs σ σ' S (fun x hm => hx x (List.mem_cons_of_mem _ hm)) h

theorem birthPV_congr {ctx : Ctx} {σ σ' : Nat → PV} {S : List SObj} (op : Op) (h : ∀ x ∈ op.operands, opd σ x = opd σ' x) : birthPV ctx σ S op = birthPV ctx σ' S op := by
  have pairs : ∀ ps : Array (Nat × Operand), (∀ x ∈ ps.map (·.2), opd σ x = opd σ' x) →
      (ps.toList.map fun p => (p.1, opd σ p.2)) = (ps.toList.map fun p => (p.1, opd σ' p.2)) := fun ps hp =>
    List.map_congr_left fun p hm => by
      rw [hp p.2 (Array.mem_map.2 ⟨p, by simpa using hm, rfl⟩)]
  cases op <;> simp only [Op.operands] at h <;> simp only [birthPV]
  case buildSlice t n ps => rw [pairs ps fun x hx => h x (by simpa using hx)]
  case call c =>
    have hargs : c.args.toList.map (opd σ) = c.args.toList.map (opd σ') := List.map_congr_left fun x hx => h x (by simp [Call.operands]; exact .inr (by simpa using hx))
    rw [hargs]
  all_goals (first | rfl | (simp_all; done))

theorem evStepF_congr {ctx : Ctx} {call : Call'} {base : Nat} {σ σ' : Nat → PV} {S : List SObj} (p : POp) (h : ∀ x ∈ p.op.operands, opd σ x = opd σ' x) : evStepF ctx call base σ S p = evStepF ctx call base σ' S p := by
  unfold evStepF
  rw [frzArgs_congr p.op h]
  obtain ⟨h1, h2⟩ := frzT_congr (L := p.op.operands.toList) (frzArgs ctx σ' p.op) σ σ' S (fun x hx => by simpa using frzArgs_mem p.op x hx) (fun x hx => h x (by simpa using hx))
  have h2 : ∀ x ∈ p.op.operands, opd (frzT (frzArgs ctx σ' p.op) σ S).1 x = opd (frzT (frzArgs ctx σ' p.op) σ' S).1 x := fun x hx => h2 x (by simpa using hx)
  simp only
  rw [h1, birthPV_congr p.op h2, evStep_congr p.op h2]

theorem wantedPV_congr {σ σ' : Nat → PV} {g : Option (Nat × Bool)} (h : ∀ t w, g = some (t, w) → σ t = σ' t) : wantedPV σ g = wantedPV σ' g := by
  cases g with
  | none => rfl
  | some q => obtain ⟨t, w⟩ := q; simp only [wantedPV, h t w rfl]

theorem mem_looks_op {p : POp} {t : Nat} (h : .tmp t ∈ p.op.operands) : t ∈ p.looks :=
  List.mem_append_left _ (List.mem_filterMap.2 ⟨.tmp t, by simpa using h, rfl⟩)
theorem mem_looks_guard {p : POp} {t : Nat} {w : Bool} (h : p.guard = some (t, w)) : t ∈ p.looks := by
  unfold POp.looks
  rw [h]
  exact List.mem_append_right _ (by simp)

section
variable {ctx : Ctx} {call : Call'} {fr : Fr} {S : List SObj}

def HeadAt (ctx : Ctx) (call : Call') (fr : Fr) (S : List SObj) (p : POp) (σ : Nat → PV) (v : PV) : Prop :=
  dstOk fr.ntmps p.dst = true ∧ ((wantedPV σ p.guard = some true ∧ evStepF ctx call fr.base σ S p = some (v, S, false)) ∨ (wantedPV σ p.guard = some false ∧ v = .tup []))

theorem HeadAt.congr {p : POp} {σ σ' : Nat → PV} {v : PV} (h : HeadAt ctx call fr S p σ v) (hs : ∀ t ∈ p.looks, σ t = σ' t) : HeadAt ctx call fr S p σ' v := by
  have hw : wantedPV σ p.guard = wantedPV σ' p.guard := wantedPV_congr fun t w hg => hs t (mem_looks_guard hg)
  have he : evStepF ctx call fr.base σ S p = evStepF ctx call fr.base σ' S p := evStepF_congr _ fun x hx => opd_congr fun t ht => hs t (mem_looks_op (by rw [← ht]; exact hx))
  unfold HeadAt at *
  rw [← hw, ← he]; exact h

def lex : List POp → List PV → (Nat → PV) → Nat → Nat → PV
  | p :: l, v :: vs, σ, k + 1 => lex l vs (upd σ p.dst v) k
  | _, _, σ, _ => σ

theorem head_trace : ∀ (l : List POp) (σ σ' : Nat → PV), evHead ctx call fr S l σ = some σ' →
    ∃ vs : List PV, vs.length = l.length ∧ lex l vs σ l.length = σ' ∧ ∀ (i : Nat) (p : POp), l[i]? = some p → HeadAt ctx call fr S p (lex l vs σ i) (vs.getD i .poison)
  | [], σ, σ', h => by
    simp only [evHead] at h
    injection h with h; subst h
    exact ⟨[], rfl, rfl, fun i p hi => by simp at hi⟩
  | p :: l, σ, σ', h => by
    simp only [evHead] at h
    split at h
    case isFalse => cases h
    rename_i hd
    have go : ∀ v, HeadAt ctx call fr S p σ v → evHead ctx call fr S l (upd σ p.dst v) = some σ' →
        ∃ vs : List PV, vs.length = (p :: l).length ∧ lex (p :: l) vs σ (p :: l).length = σ' ∧ ∀ (i : Nat) (q : POp), (p :: l)[i]? = some q → HeadAt ctx call fr S q (lex (p :: l) vs σ i) (vs.getD i .poison) := by
      intro v hv h
      obtain ⟨vs, h1, h2, h3⟩ := head_trace l _ _ h
      refine ⟨v :: vs, by simp [h1], h2, fun i q hi => ?_⟩
      cases i with
      | zero => simp at hi; subst hi; exact hv
      | succ i => exact h3 i q (by simpa using hi)
    split at h
    · cases h
    · rename_i hw; exact go _ ⟨hd, .inr ⟨hw, rfl⟩⟩ h
    · rename_i hw
      split at h
      · cases h
      rename_i v S' e' hs
      split at h
      case isFalse => cases h
      rename_i hsame
      simp only [Bool.and_eq_true, Bool.not_eq_true'] at hsame
      have := sameS_eq _ _ hsame.1
      subst this
      rw [hsame.2] at hs
      exact go _ ⟨hd, .inl ⟨hw, hs⟩⟩ h

def Once (l : List POp) : Prop := ∀ (i j : Nat) (p q : POp) (t : Nat), l[i]? = some p → l[j]? = some q → p.dst = some t → q.dst = some t → i = j

theorem lex_none {t : Nat} : ∀ (l : List POp) (vs : List PV) (σ : Nat → PV) (k : Nat), (∀ (j : Nat) (q : POp), j < k → l[j]? = some q → q.dst ≠ some t) → lex l vs σ k t = σ t
  | [], vs, σ, k, h => by simp [lex]
  | p :: l, [], σ, k, h => by simp [lex]
  | p :: l, v :: vs, σ, 0, h => by simp [lex]
  | p :: l, v :: vs, σ, k + 1, h => by
    simp only [lex]
    rw [lex_none l vs _ k fun j q hj hq => h (j + 1) q (by omega) (by simpa using hq)]
    have h0 := h 0 p (by omega) rfl
    unfold upd
    cases hd : p.dst with
    | none => rfl
    | some d =>
      have : t ≠ d := by rintro rfl; exact h0 hd
      simp [this]

theorem lex_some {t : Nat} : ∀ (l : List POp) (vs : List PV) (σ : Nat → PV) (k : Nat), Once l → vs.length = l.length → ∀ (j : Nat) (q : POp), j < k → l[j]? = some q → q.dst = some t → lex l vs σ k t = vs.getD j .poison
  | [], vs, σ, k, ho, hl, j, q, hj, hq, hd => by simp at hq
  | p :: l, [], σ, k, ho, hl, j, q, hj, hq, hd => by simp at hl
  | p :: l, v :: vs, σ, 0, ho, hl, j, q, hj, hq, hd => by omega
  | p :: l, v :: vs, σ, k + 1, ho, hl, j, q, hj, hq, hd => by
    simp only [lex]
    have ho' : Once l := fun i j p q t hi hj hp hq => by
      have := ho (i + 1) (j + 1) p q t (by simpa using hi) (by simpa using hj) hp hq
      omega
    cases j with
    | zero =>
      simp at hq; subst hq
      rw [lex_none l vs _ k fun j' q' hj' hq' hd' => by have := ho 0 (j' + 1) p q' t rfl (by simpa using hq') hd hd'; omega]
      simp [upd, hd]
    | succ j =>
      rw [lex_some l vs _ k ho' (by simpa using hl) j q (by omega) (by simpa using hq) hd]
      simp

def mixF : List POp → List PV → (Nat → Bool) → Nat → (Nat → PV) → Nat → PV
  | p :: l, v :: vs, L, k, σ => mixF l vs L (k + 1) (if L k then upd σ p.dst v else σ)
  | _, _, _, _, σ => σ

theorem mix_none {t : Nat} : ∀ (l : List POp) (vs : List PV) (L : Nat → Bool) (k : Nat) (σ : Nat → PV), (∀ (j : Nat) (q : POp), L (k + j) = true → l[j]? = some q → q.dst ≠ some t) → mixF l vs L k σ t = σ t
  | [], vs, L, k, σ, h => by simp [mixF]
  | p :: l, [], L, k, σ, h => by simp [mixF]
  | p :: l, v :: vs, L, k, σ, h => by
    simp only [mixF]
    rw [mix_none l vs L (k + 1) _ fun j q hj hq => h (j + 1) q (by rw [← hj]; congr 1; omega) (by simpa using hq)]
    split
    · rename_i hL
      have h0 := h 0 p hL rfl
      unfold upd
      cases hd : p.dst with
      | none => rfl
      | some d =>
        have : t ≠ d := by rintro rfl; exact h0 hd
        simp [this]
    · rfl

theorem mix_some {t : Nat} : ∀ (l : List POp) (vs : List PV) (L : Nat → Bool) (k : Nat) (σ : Nat → PV), Once l → vs.length = l.length → ∀ (j : Nat) (q : POp), L (k + j) = true → l[j]? = some q → q.dst = some t → mixF l vs L k σ t = vs.getD j .poison
  | [], vs, L, k, σ, ho, hl, j, q, hj, hq, hd => by simp at hq
  | p :: l, [], L, k, σ, ho, hl, j, q, hj, hq, hd => by simp at hl
  | p :: l, v :: vs, L, k, σ, ho, hl, j, q, hj, hq, hd => by
    simp only [mixF]
    have ho' : Once l := fun i j p q t hi hj hp hq => by
      have := ho (i + 1) (j + 1) p q t (by simpa using hi) (by simpa using hj) hp hq
      omega
    cases j with
    | zero =>
      simp at hq; subst hq
      rw [mix_none l vs L (k + 1) _ fun j' q' hj' hq' hd' => by have := ho 0 (j' + 1) p q' t rfl (by simpa using hq') hd hd'; omega]
      simp at hj
      simp [upd, hd, hj]
    | succ j =>
      rw [mix_some l vs L (k + 1) _ ho' (by simpa using hl) j q (by rw [← hj]; congr 1; omega) (by simpa using hq) hd]
      simp
end

/-! Which come ahead of which -/
def aheadF (o : Oper) (acc : List Nat) : Nat :=
  o.after.toList.foldl (fun s e => if Region.binds .any e then s ||| 2 ^ e.on ||| acc.getD e.on 0 else s) 0

theorem aheadOf_get : ∀ (l : List Oper) (acc : List Nat), ∃ r, aheadOf l acc = acc ++ r ∧ r.length = l.length ∧ ∀ i o, l[i]? = some o → r[i]? = some (aheadF o ((aheadOf l acc).take (acc.length + i)))
  | [], acc => ⟨[], by simp [aheadOf], rfl, fun i o h => by simp at h⟩
  | o :: l, acc => by
    obtain ⟨r, h1, h2, h3⟩ := aheadOf_get l (acc ++ [aheadF o acc])
    have he : aheadOf (o :: l) acc = aheadOf l (acc ++ [aheadF o acc]) := rfl
    refine ⟨aheadF o acc :: r, by rw [he, h1]; simp, by simp [h2], fun i o' hi => ?_⟩
    rw [he]
    cases i with
    | zero =>
      simp at hi; subst hi
      rw [h1]; simp
    | succ i =>
      have := h3 i o' (by simpa using hi)
      simp only [List.length_append, List.length_cons, List.length_nil] at this
      simp only [List.getElem?_cons_succ]
      rw [this, show acc.length + (0 + 1) + i = acc.length + (i + 1) by omega]

theorem fold_bit (acc : List Nat) (j : Nat) : ∀ (es : List Edge) (s : Nat), (es.foldl (fun s e => if Region.binds .any e then s ||| 2 ^ e.on ||| acc.getD e.on 0 else s) s).testBit j = true →
    s.testBit j = true ∨ ∃ e ∈ es, Region.binds .any e = true ∧ (j = e.on ∨ (acc.getD e.on 0).testBit j = true)
  | [], s, h => .inl h
  | e :: es, s, h => by
    simp only [List.foldl_cons] at h
    rcases fold_bit acc j es _ h with h | ⟨e', h1, h2⟩
    · split at h
      · rename_i hb
        rw [Nat.testBit_or, Nat.testBit_or, Bool.or_eq_true, Bool.or_eq_true] at h
        rcases h with (h | h) | h
        · exact .inl h
        · rw [Nat.testBit_two_pow] at h
          exact .inr ⟨e, by simp, hb, .inl (by simpa using h : e.on = j).symm⟩
        · exact .inr ⟨e, by simp, hb, .inr h⟩
      · exact .inl h
    · exact .inr ⟨e', by simp [h1], h2⟩

theorem ahead_bit {l : List Oper} {i j : Nat} {o : Oper} (hi : l[i]? = some o) (h : ((aheadOf l []).getD i 0).testBit j = true) (hlt : ∀ e ∈ o.after.toList, Region.binds .any e = true → e.on < i) :
    ∃ e ∈ o.after.toList, Region.binds .any e = true ∧ (j = e.on ∨ ((aheadOf l []).getD e.on 0).testBit j = true) := by
  obtain ⟨r, h1, h2, h3⟩ := aheadOf_get l []
  have hr := h3 i o hi
  simp only [List.nil_append] at h1
  rw [h1] at h hr
  rw [List.getD_eq_getElem?_getD, hr] at h
  simp only [Option.getD_some, List.length_nil, Nat.zero_add] at h
  unfold aheadF at h
  rcases fold_bit _ j _ _ h with h | ⟨e, e1, e2, e3⟩
  · simp at h
  · refine ⟨e, e1, e2, e3.imp id fun h => ?_⟩
    rw [h1]
    rw [List.getD_eq_getElem?_getD, List.getElem?_take] at h
    rw [if_pos (hlt e e1 e2)] at h
    rwa [List.getD_eq_getElem?_getD]

def cnt (L : Nat → Bool) : Nat → Nat
  | 0 => 0
  | k + 1 => cnt L k + if L k then 1 else 0

theorem cnt_le (L : Nat → Bool) : ∀ k, cnt L k ≤ k
  | 0 => Nat.le_refl _
  | k + 1 => by have := cnt_le L k; simp only [cnt]; split <;> omega
theorem cnt_all (L : Nat → Bool) : ∀ k, cnt L k = k → ∀ i, i < k → L i = true
  | 0, _, i, hi => by omega
  | k + 1, h, i, hi => by
    simp only [cnt] at h
    have := cnt_le L k
    split at h
    · rename_i hk
      rcases Nat.lt_or_ge i k with hik | hik
      · exact cnt_all L k (by omega) i hik
      · rw [show i = k by omega]; exact hk
    · omega
theorem cnt_full (L : Nat → Bool) : ∀ k, (∀ i, i < k → L i = true) → cnt L k = k
  | 0, _ => rfl
  | k + 1, h => by simp only [cnt, h k (by omega), if_true, cnt_full L k fun i hi => h i (by omega)]
theorem cnt_set {L L' : Nat → Bool} {i : Nat} (h0 : L i = false) (h1 : L' i = true) (h2 : ∀ j, j ≠ i → L' j = L j) : ∀ k, cnt L' k = cnt L k + if i < k then 1 else 0
  | 0 => rfl
  | k + 1 => by
    simp only [cnt, cnt_set h0 h1 h2 k]
    by_cases hik : i = k
    · subst hik; simp [h0, h1]
    · rw [h2 k (fun h => hik h.symm)]
      by_cases hlt : i < k
      · have h3 : i < k + 1 := by omega
        simp only [hlt, h3, if_true]; omega
      · have h3 : ¬ i < k + 1 := by omega
        simp only [hlt, h3, if_false]; omega

theorem popsOf_get {m : List Nat} {ops : Array Oper} : ∀ {l : List Oper} {ps : List POp}, popsOf m ops l = some ps → ps.length = l.length ∧ ∀ (i : Nat) (o : Oper), l[i]? = some o → ∃ p : POp, ps[i]? = some p ∧ popOf m ops o = some p
  | [], ps, h => by
    simp only [popsOf] at h; injection h with h; subst h
    exact ⟨rfl, fun i o hi => by simp at hi⟩
  | o :: l, ps, h => by
    simp only [popsOf] at h
    split at h
    case h_2 => cases h
    rename_i p r hp hr
    injection h with h; subst h
    obtain ⟨h1, h2⟩ := popsOf_get hr
    refine ⟨by simp [h1], fun i o' hi => ?_⟩
    cases i with
    | zero => simp at hi; subst hi; exact ⟨p, rfl, hp⟩
    | succ i => simpa using h2 i o' (by simpa using hi)
end Go.Pam
