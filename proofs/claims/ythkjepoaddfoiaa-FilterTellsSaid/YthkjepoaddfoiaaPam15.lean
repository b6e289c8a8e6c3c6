/- Soundness: regions, bodies, calls. -/
import Derived.Test.YthkjepoaddfoiaaPamE
namespace Go.Pam
set_option linter.unusedVariables false
set_option linter.unusedSimpArgs false
open Go.RowKit

structure Rel (fr : Fr) (bd : Nat → Nat) (s : St) (g : G) (w : World) (a : Act) : Prop where
  slots : Slots g w s.2.1.length s.1 a.tmps
  size : a.tmps.size = fr.ntmps
  defers : a.defers = []
  r : R s.2.1 w g (if s.2.2 then 0 else fr.base) bd

def Ex.to : Ex → Exit
  | .normal => .normal
  | .exit id => .exit id
  | .ret => .ret

section
variable {P : Program} {ctx : Ctx} {call : Call'} {fr : Fr} {bd : Nat → Nat} {m : List Nat}

theorem popOf_spec {ops : Array Oper} {o : Oper} {p : POp} (h : popOf m ops o = some p) : p.dst = o.dst ∧ p.op = o.op ∧
    ((o.guard = none ∧ p.guard = none) ∨ ∃ j want t, o.guard = some (j, want) ∧ (ops[j]?).bind (·.dst) = some t ∧ p.guard = some (t, want)) := by
  unfold popOf at h
  split at h
  · rename_i hg
    injection h with h; subst h
    exact ⟨rfl, rfl, .inl ⟨hg, rfl⟩⟩
  · rename_i j want hg
    split at h
    · rename_i t ht
      injection h with h; subst h
      exact ⟨rfl, rfl, .inr ⟨j, want, t, hg, ht, rfl⟩⟩
    · cases h

theorem wantedPV_sound {g : G} {w : World} {n : Nat} {σ : Nat → PV} {tmps : Array Value} (hs : Slots g w n σ tmps) {ops : Array Oper} {o : Oper} {p : POp} {b : Bool} (hp : popOf m ops o = some p) (h : wantedPV σ p.guard = some b) :
    Region.wanted o (yielded ops tmps) = b := by
  obtain ⟨_, _, hg⟩ := popOf_spec hp
  unfold Region.wanted
  rcases hg with ⟨h1, h2⟩ | ⟨j, want, t, h1, h2, h3⟩
  · rw [h2] at h
    simp only [wantedPV] at h
    injection h with h; subst h
    rw [h1]
  · rw [h3] at h
    rw [h1]
    have hv := hs t
    simp only [yielded, h2, Option.bind_some]
    simp only [wantedPV] at h
    split at h
    · rename_i c hc
      injection h with h; subst h
      rw [hc] at hv
      have hv := hv.inv_bool
      rw [Array.getD_eq_getD_getElem?] at hv
      cases hx : tmps[t]? with
      | none => rw [hx] at hv; simp [undef] at hv
      | some y => rw [hx] at hv; simp at hv; subst hv; simp
    · rename_i hc
      injection h with h; subst h
      rw [hc] at hv
      obtain ⟨cs, he, hl, _⟩ := hv.inv_tup
      rw [Array.getD_eq_getD_getElem?] at he
      cases hx : tmps[t]? with
      | none => simp
      | some y => rw [hx] at he; simp at he; subst he; simp
    · cases h

theorem step_rel {s : St} {g : G} {w : World} {a : Act} (hr : Rel fr bd s g w a) {d : Option Nat} (hd : ∀ i, d = some i → i < fr.ntmps) {x : PV} {S' : List SObj} {e' : Bool} {v : Value} {w' : World}
    (hg : Good (if s.2.2 then 0 else fr.base) bd s.2.1 g w x S' e' v w') : ∃ g', Rel fr bd (upd s.1 d x, S', s.2.2 || e') g' w' (a.put d v) ∧ Evo s.2.1.length g w g' w' ∧ s.2.1.length ≤ S'.length := by
  obtain ⟨g', h1, h2, h3, h4⟩ := hg
  refine ⟨g', ⟨?_, by rw [size_put]; exact hr.size, by cases d <;> exact hr.defers, ?_⟩, h3, h4⟩
  · exact ((hr.slots.evo h3).mono h4).put (fun i hi => by rw [hr.size]; exact hd i hi) h1
  · have : (if e' = true then 0 else if s.2.2 = true then 0 else fr.base) = (if (s.2.2 || e') = true then 0 else fr.base) := by
      cases e' <;> cases s.2.2 <;> rfl
    rw [← this]; exact h2

theorem op_rel (hc : CtxTy P ctx) (hcall : CallOk P call) {ops : Array Oper} {o : Oper} {p : POp} (hp : popOf m ops o = some p) {s : St} {g : G} {w : World} {a : Act} (hr : Rel fr bd s g w a)
    (hd : dstOk fr.ntmps p.dst = true) {b : Bool} (hw : wantedPV s.1 p.guard = some b) {x : PV} {S' : List SObj} {e' : Bool}
    (hst : if b then evStepF ctx call fr.base s.1 s.2.1 p = some (x, S', e') else x = .tup [] ∧ S' = s.2.1 ∧ e' = false) (K : Act → World → Prop) (Q : Exit → Act → World → Prop)
    (hk : ∀ g' w' a', Rel fr bd (upd s.1 p.dst x, S', s.2.2 || e') g' w' a' → Evo s.2.1.length g w g' w' → s.2.1.length ≤ S'.length → K a' w') :
    if Region.wanted o (yielded ops a.tmps) then o.wp P a w K Q ∨ (o.asks P a w ∧ LetsOut Q) else K (a.put o.dst undef) w := by
  obtain ⟨p1, p2, _⟩ := popOf_spec hp
  have hw' := wantedPV_sound hr.slots hp hw
  have hd' : ∀ i, o.dst = some i → i < fr.ntmps := by
    intro i hi
    rw [p1, hi] at hd
    simpa [dstOk] using hd
  cases b with
  | false =>
    rw [if_neg (by rw [hw']; simp)]
    simp only [Bool.false_eq_true, if_false] at hst
    obtain ⟨rfl, rfl, rfl⟩ := hst
    obtain ⟨g1, r1, e1, l1⟩ := step_rel (fr := fr) hr hd' (Good.same (base := if s.2.2 then 0 else fr.base) hr.r (V.tup (g := g) (w := w) (n := s.2.1.length) [] #[] rfl (fun i c hi => by simp at hi)))
    rw [← p1] at r1
    rw [← p1]
    exact hk g1 w _ r1 e1 l1
  | true =>
    rw [if_pos hw']
    simp only [if_true] at hst
    refine .inl ?_
    refine evStepF_sound hc hcall hr.r hr.slots (by cases s.2.2 <;> simp) p2 hst _ _ ?_
    intro v' w' hg
    obtain ⟨g1, r1, ev1, l1⟩ := step_rel (fr := fr) hr hd' hg
    rw [← p1] at r1
    rw [← p1]
    exact hk g1 w' _ r1 ev1 l1

theorem evOps_sound (hc : CtxTy P ctx) (hcall : CallOk P call) {ops : Array Oper} {Q : Exit → Act → World → Prop} : ∀ (l : List Oper) (ps : List POp) (s s' : St) (g : G) (w : World) (a : Act), popsOf m ops l = some ps → evOps ctx call fr ps s.1 s.2.1 s.2.2 = some s' → Rel fr bd s g w a →
    (∀ g' w' a', Rel fr bd s' g' w' a' → Evo s.2.1.length g w g' w' → s.2.1.length ≤ s'.2.1.length → Q .normal a' w') → wpList P ops Q l a w
  | [], ps, s, s', g, w, a, hp, h, hr, hq => by
    simp only [popsOf] at hp
    injection hp with hp; subst hp
    simp only [evOps] at h
    injection h with h; subst h
    exact hq g w a hr (Evo.refl _ _ _) (Nat.le_refl _)
  | o :: l, ps, s, s', g, w, a, hp, h, hr, hq => by
    simp only [popsOf] at hp
    split at hp
    case h_2 => cases hp
    rename_i p ps' hp1 hp2
    injection hp with hp; subst hp
    simp only [evOps] at h
    split at h
    case isFalse => cases h
    rename_i hd
    unfold wpList
    split at h
    · cases h
    · rename_i hw
      refine op_rel hc hcall hp1 hr hd hw (x := .tup []) (S' := s.2.1) (e' := false) (by simp) _ _ ?_
      intro g1 w1 a1 r1 e1 l1
      rw [Bool.or_false] at r1
      exact evOps_sound hc hcall l ps' (upd s.1 p.dst (.tup []), s.2.1, s.2.2) s' g1 w1 a1 hp2 h r1 (fun g' w' a' hr' e' l' => hq g' w' a' hr' (e1.trans e') l')
    · rename_i hw
      split at h
      · cases h
      rename_i v S1 e1 hst
      refine op_rel hc hcall hp1 hr hd hw (x := v) (S' := S1) (e' := e1) (by simpa using hst) _ _ ?_
      intro g1 w1 a1 r1 ev1 l1
      exact evOps_sound hc hcall l ps' (upd s.1 p.dst v, S1, s.2.2 || e1) s' g1 w1 a1 hp2 h r1
        (fun g' w'' a' hr' e' l' => hq g' w'' a' hr' (ev1.trans (e'.mono l1)) (Nat.le_trans l1 l'))

theorem rounds_sound {body : St → Option (Ex × St)} {c : Code} {Q : Exit → Act → World → Prop}
    (hb : ∀ (s s' : St) (x : Ex) (g : G) (w : World) (a : Act) (Q : Exit → Act → World → Prop), body s = some (x, s') → Rel fr bd s g w a →
      (∀ g' w' a', Rel fr bd s' g' w' a' → Evo s.2.1.length g w g' w' → s.2.1.length ≤ s'.2.1.length → Q x.to a' w') → c.wp P Q a w) :
    ∀ (k : Nat) (s s' : St) (x : Ex) (g : G) (w : World) (a : Act), rounds body k s = some (x, s') → Rel fr bd s g w a →
      (∀ g' w' a', Rel fr bd s' g' w' a' → Evo s.2.1.length g w g' w' → s.2.1.length ≤ s'.2.1.length → Q x.to a' w') → Code.rounds P c Q k a w
  | 0, _, _, _, _, _, _, h, _, _ => by simp [rounds] at h
  | k + 1, s, s', x, g, w, a, h, hr, hq => by
    simp only [rounds] at h
    rw [rounds_succ]
    split at h
    · cases h
    · rename_i s1 h1
      refine hb s s1 .normal g w a _ h1 hr ?_
      intro g1 w1 a1 r1 e1 l1
      show Code.rounds P c Q k a1 w1
      exact rounds_sound hb k s1 s' x g1 w1 a1 h r1 (fun g' w' a' r' e' l' => hq g' w' a' r' (e1.trans (e'.mono l1)) (Nat.le_trans l1 l'))
    · rename_i y s1 hne h1
      injection h with h
      injection h with h2 h3
      subst h2; subst h3
      refine hb s s1 y g w a _ h1 hr ?_
      intro g1 w1 a1 r1 e1 l1
      cases y with
      | normal => exact absurd rfl (hne)
      | exit id => exact hq g1 w1 a1 r1 e1 l1
      | ret => exact hq g1 w1 a1 r1 e1 l1

theorem ready_unlisted {ops : Array Oper} {listed : Array Bool} (hsz : listed.size = ops.size) (hlt : ∀ (i : Nat) (o : Oper), ops[i]? = some o → ∀ e ∈ o.after, Region.binds .any e = true → e.on < i) :
    ∀ i, i < ops.size → listed.getD i false = false → Region.ready .any ops listed ≠ [] := by
  intro i
  induction i using Nat.strongRecOn with
  | _ i ih =>
    intro hi hu
    by_cases hall : ∀ j, j < i → listed.getD j false = true
    · have hmem : i ∈ Region.ready .any ops listed := by
        rw [mem_ready]
        refine ⟨?_, ops[i], by simp [hi], fun e he hb => hall _ (hlt i ops[i] (by simp [hi]) e he hb)⟩
        rw [Array.getD_eq_getD_getElem?] at hu ⊢
        rw [Array.getElem?_eq_getElem (by omega)] at hu ⊢
        exact hu
      intro h; rw [h] at hmem; cases hmem
    · have : ∃ j, j < i ∧ listed.getD j false = false := by
        apply Classical.byContradiction
        intro hno
        apply hall
        intro j hj
        cases hc : listed.getD j false with
        | true => rfl
        | false => exact absurd ⟨j, hj, hc⟩ hno
      obtain ⟨j, hj, hju⟩ := this
      exact ih j hj (by omega) hju

theorem ready_none {ops : Array Oper} {listed : Array Bool} (hsz : listed.size = ops.size) (hall : ∀ i, i < ops.size → listed.getD i false = true) : Region.ready .any ops listed = [] := by
  apply List.eq_nil_iff_forall_not_mem.2
  intro i hi
  rw [mem_ready] at hi
  obtain ⟨h1, o, h2, _⟩ := hi
  have hlt : i < ops.size := (Array.getElem?_eq_some_iff.1 h2).1
  have := hall i hlt
  rw [Array.getD_eq_getD_getElem?] at this h1
  rw [Array.getElem?_eq_getElem (by omega)] at this h1
  simp at this h1
  rw [h1] at this; cases this

theorem getD_set {listed : Array Bool} {i : Nat} (hi : i < listed.size) (j : Nat) : (listed.setIfInBounds i true).getD j false = if j = i then true else listed.getD j false := by
  rw [Array.getD_eq_getD_getElem?, Array.getD_eq_getD_getElem?, Array.getElem?_setIfInBounds]
  by_cases h : i = j
  · subst h; simp [hi]
  · rw [if_neg h, if_neg (fun h' => h h'.symm)]

theorem wpOp_of_rel (hc : CtxTy P ctx) (hcall : CallOk P call) {ops : Array Oper} {i : Nat} {o : Oper} {p : POp} (hi : ops[i]? = some o) (hp : popOf m ops o = some p) {s : St} {g : G} {w : World} {a : Act} (hr : Rel fr bd s g w a)
    (hd : dstOk fr.ntmps p.dst = true) {b : Bool} (hw : wantedPV s.1 p.guard = some b) {x : PV} {S' : List SObj} {e' : Bool}
    (hst : if b then evStepF ctx call fr.base s.1 s.2.1 p = some (x, S', e') else x = .tup [] ∧ S' = s.2.1 ∧ e' = false) (K : Act → World → Prop) (Q : Exit → Act → World → Prop)
    (hk : ∀ g' w' a', Rel fr bd (upd s.1 p.dst x, S', s.2.2 || e') g' w' a' → Evo s.2.1.length g w g' w' → s.2.1.length ≤ S'.length → K a' w') : wpOp P ops Q i K a w := by
  unfold wpOp
  rw [hi]
  exact op_rel hc hcall hp hr hd hw hst K Q hk

theorem any_tail (hc : CtxTy P ctx) (hcall : CallOk P call) {ops : Array Oper} {ps : List POp} {n : Nat} (hps : popsOf m ops ops.toList = some ps)
    (hlt : ∀ (i : Nat) (o : Oper), ops[i]? = some o → ∀ e ∈ o.after, Region.binds .any e = true → e.on < i)
    (hseq : ∀ (listed : Array Bool) (i : Nat), n ≤ i → i ∈ Region.ready .any ops listed → (∀ j, listed.getD j false = true → ∀ k, ((aheadOf ops.toList []).getD j 0).testBit k = true → listed.getD k false = true) → ∀ j, j < i → listed.getD j false = true)
    (hclo : ∀ (listed : Array Bool) (i : Nat), i ∈ Region.ready .any ops listed → (∀ j, listed.getD j false = true → ∀ k, ((aheadOf ops.toList []).getD j 0).testBit k = true → listed.getD k false = true) → ∀ k, ((aheadOf ops.toList []).getD i 0).testBit k = true → listed.getD k false = true)
    {s' : St} {Q : Exit → Act → World → Prop} {g0 : G} {w0 : World} {N : Nat} (hq : ∀ g' w' a', Rel fr bd s' g' w' a' → Evo N g0 w0 g' w' → N ≤ s'.2.1.length → Q .normal a' w') :
    ∀ (fuel : Nat) (listed : Array Bool) (m : Nat) (s1 : St) (g : G) (w : World) (a : Act), listed.size = ops.size → cnt (fun i => listed.getD i false) ops.size + fuel = ops.size →
      (∀ j, listed.getD j false = true → ∀ k, ((aheadOf ops.toList []).getD j 0).testBit k = true → listed.getD k false = true) →
      n ≤ m → (∀ i, i < ops.size → (listed.getD i false = true ↔ i < m)) → Rel fr bd s1 g w a → evOps ctx call fr (ps.drop m) s1.1 s1.2.1 s1.2.2 = some s' → Evo N g0 w0 g w → N ≤ s1.2.1.length →
      wpAny P .any ops Q fuel listed a w
  | fuel, listed, m, s1, g, w, a, hsz, hcnt, hclosed, hnm, hl, hr, hev, he, hle => by
    obtain ⟨plen, pget⟩ := popsOf_get hps
    have hsize : ops.toList.length = ops.size := by simp
    rcases Nat.lt_or_ge m ops.size with hm | hm
    · -- one is left
      have hun : listed.getD m false = false := by
        cases hc : listed.getD m false with
        | false => rfl
        | true => exact absurd ((hl m hm).1 hc) (by omega)
      cases fuel with
      | zero => have := cnt_all _ _ (by omega) m hm; rw [hun] at this; cases this
      | succ fuel =>
        refine ⟨fun h => absurd h (ready_unlisted hsz hlt m hm hun), fun i hi => ?_⟩
        have him : i = m := by
          obtain ⟨h1, o, h2, _⟩ := mem_ready.1 hi
          have hilt : i < ops.size := (Array.getElem?_eq_some_iff.1 h2).1
          have hge : m ≤ i := by
            rcases Nat.lt_or_ge i m with h | h
            · have := (hl i hilt).2 h
              rw [Array.getD_eq_getD_getElem?] at this h1
              rw [Array.getElem?_eq_getElem (by omega)] at this h1
              simp at this h1
              rw [h1] at this; cases this
            · exact h
          rcases Nat.lt_or_ge m i with h | h
          · have := hseq listed i (by omega) hi hclosed m h
            rw [hun] at this; cases this
          · omega
        subst him
        obtain ⟨p, hp1, hp2⟩ := pget i ops[i] (by simp [hm])
        have hdrop : ps.drop i = p :: ps.drop (i + 1) := by
          have hil : i < ps.length := by omega
          rw [List.drop_eq_getElem_cons hil]
          rw [List.getElem?_eq_getElem hil] at hp1
          injection hp1 with hp1; rw [hp1]
        rw [hdrop] at hev
        simp only [evOps] at hev
        split at hev
        case isFalse => cases hev
        rename_i hd
        have next : ∀ (x : PV) (S' : List SObj) (e' : Bool), evOps ctx call fr (ps.drop (i + 1)) (upd s1.1 p.dst x) S' (s1.2.2 || e') = some s' →
            ∀ g' w' a', Rel fr bd (upd s1.1 p.dst x, S', s1.2.2 || e') g' w' a' → Evo s1.2.1.length g w g' w' → s1.2.1.length ≤ S'.length → wpAny P .any ops Q fuel (listed.setIfInBounds i true) a' w' := by
          intro x S' e' hev' g' w' a' hr' he' hle'
          refine any_tail hc hcall hps hlt hseq hclo hq fuel _ (i + 1) _ g' w' a' (by simpa using hsz) ?_ ?_ (by omega) (fun j hj => ?_) hr' hev' (he.trans (he'.mono hle)) (by simp only; omega)
          · have := cnt_set (L := fun i => listed.getD i false) (L' := fun j => (listed.setIfInBounds i true).getD j false) (i := i) hun (by rw [getD_set (by omega)]; simp) (fun j hj => by rw [getD_set (by omega), if_neg hj]) ops.size
            rw [this, if_pos hm]; omega
          · intro j hj k hk
            rw [getD_set (by omega)] at hj ⊢
            by_cases hki : k = i
            · rw [if_pos hki]
            · rw [if_neg hki]
              by_cases hji : j = i
              · subst hji; exact hclo listed j hi hclosed k hk
              · rw [if_neg hji] at hj; exact hclosed j hj k hk
          · rw [getD_set (by omega)]
            by_cases hji : j = i
            · simp [hji]
            · rw [if_neg hji, hl j hj]; omega
        split at hev
        · cases hev
        · rename_i hw
          exact wpOp_of_rel hc hcall (by simp [hm]) hp2 hr hd hw (x := .tup []) (S' := s1.2.1) (e' := false) (by simp) _ _ (next _ _ _ (by rw [Bool.or_false]; exact hev))
        · rename_i hw
          split at hev
          · cases hev
          rename_i v S1 e1 hst
          exact wpOp_of_rel hc hcall (by simp [hm]) hp2 hr hd hw (x := v) (S' := S1) (e' := e1) (by simpa using hst) _ _ (next _ _ _ hev)
    · -- none is left
      have hall : ∀ i, i < ops.size → listed.getD i false = true := fun i hi => (hl i hi).2 (by omega)
      have hfuel : fuel = 0 := by rw [cnt_full _ _ hall] at hcnt; omega
      subst hfuel
      refine ⟨ready_none hsz hall, ?_⟩
      rw [List.drop_eq_nil_of_le (by omega)] at hev
      simp only [evOps] at hev
      injection hev with hev; subst hev
      exact hq g w a hr he hle

theorem any_head (hc : CtxTy P ctx) (hcall : CallOk P call) {ops : Array Oper} {ps : List POp} {n : Nat} (hps : popsOf m ops ops.toList = some ps) (hn : n ≤ ops.size)
    (hlt : ∀ (i : Nat) (o : Oper), ops[i]? = some o → ∀ e ∈ o.after, Region.binds .any e = true → e.on < i)
    (hseq : ∀ (listed : Array Bool) (i : Nat), n ≤ i → i ∈ Region.ready .any ops listed → (∀ j, listed.getD j false = true → ∀ k, ((aheadOf ops.toList []).getD j 0).testBit k = true → listed.getD k false = true) → ∀ j, j < i → listed.getD j false = true)
    (hclo : ∀ (listed : Array Bool) (i : Nat), i ∈ Region.ready .any ops listed → (∀ j, listed.getD j false = true → ∀ k, ((aheadOf ops.toList []).getD j 0).testBit k = true → listed.getD k false = true) → ∀ k, ((aheadOf ops.toList []).getD i 0).testBit k = true → listed.getD k false = true)
    (hbl : ∀ i k, i < ops.size → ((aheadOf ops.toList []).getD i 0).testBit k = true → k < i)
    (hone : Once (ps.take n)) (hlook : ∀ (i j : Nat) (p q : POp) (t : Nat), i < n → j < n → i ≠ j → ps[i]? = some p → ps[j]? = some q → q.dst = some t → t ∈ p.looks → ((aheadOf ops.toList []).getD i 0).testBit j = true)
    {s s' : St} {vs : List PV} (hvl : vs.length = (ps.take n).length) (hvs : ∀ (i : Nat) (p : POp), (ps.take n)[i]? = some p → HeadAt ctx call fr s.2.1 p (lex (ps.take n) vs s.1 i) (vs.getD i .poison))
    (h2 : evOps ctx call fr (ps.drop n) (lex (ps.take n) vs s.1 (ps.take n).length) s.2.1 s.2.2 = some s')
    {Q : Exit → Act → World → Prop} {g0 : G} {w0 : World} (hq : ∀ g' w' a', Rel fr bd s' g' w' a' → Evo s.2.1.length g0 w0 g' w' → s.2.1.length ≤ s'.2.1.length → Q .normal a' w') :
    ∀ (fuel : Nat) (listed : Array Bool) (g : G) (w : World) (a : Act), listed.size = ops.size → cnt (fun i => listed.getD i false) ops.size + fuel = ops.size →
      (∀ j, listed.getD j false = true → ∀ k, ((aheadOf ops.toList []).getD j 0).testBit k = true → listed.getD k false = true) →
      (∀ i, listed.getD i false = true → i < n) → Rel fr bd (mixF (ps.take n) vs (fun i => listed.getD i false) 0 s.1, s.2.1, s.2.2) g w a → Evo s.2.1.length g0 w0 g w →
      wpAny P .any ops Q fuel listed a w
  | fuel, listed, g, w, a, hsz, hcnt, hclosed, hl, hr, he => by
    obtain ⟨plen, pget⟩ := popsOf_get hps
    have hsize : ops.toList.length = ops.size := by simp
    have htl : (ps.take n).length = n := by simp; omega
    have tget : ∀ (i : Nat) (p : POp), (ps.take n)[i]? = some p ↔ i < n ∧ ps[i]? = some p := by
      intro i p
      rw [List.getElem?_take]
      by_cases h : i < n
      · simp [h]
      · simp [h]
    by_cases hall : ∀ i, i < n → listed.getD i false = true
    · -- all of them have come
      have hmix : mixF (ps.take n) vs (fun i => listed.getD i false) 0 s.1 = lex (ps.take n) vs s.1 (ps.take n).length := by
        funext t
        by_cases ht : ∃ (j : Nat) (q : POp), (ps.take n)[j]? = some q ∧ q.dst = some t
        · obtain ⟨j, q, hj, hd⟩ := ht
          have hjn := ((tget j q).1 hj).1
          rw [mix_some _ _ _ _ _ hone hvl j q (by simpa using hall j hjn) hj hd, lex_some _ _ _ _ hone hvl j q (by omega) hj hd]
        · rw [mix_none _ _ _ _ _ (fun j q _ hj hd => ht ⟨j, q, hj, hd⟩), lex_none _ _ _ _ (fun j q _ hj hd => ht ⟨j, q, hj, hd⟩)]
      rw [hmix] at hr
      exact any_tail hc hcall hps hlt hseq hclo hq fuel listed n _ g w a hsz hcnt hclosed (Nat.le_refl _) (fun i hi => ⟨hl i, hall i⟩) hr h2 he (Nat.le_refl _)
    · have : ∃ m, m < n ∧ listed.getD m false = false := by
        apply Classical.byContradiction
        intro hno
        apply hall
        intro j hj
        cases hc : listed.getD j false with
        | true => rfl
        | false => exact absurd ⟨j, hj, hc⟩ hno
      obtain ⟨m, hmn, hun⟩ := this
      cases fuel with
      | zero => have := cnt_all _ _ (by omega) m (by omega); rw [hun] at this; cases this
      | succ fuel =>
        refine ⟨fun h => absurd h (ready_unlisted hsz hlt m (by omega) hun), fun i hi => ?_⟩
        obtain ⟨hiu, o, hio, _⟩ := mem_ready.1 hi
        have hilt : i < ops.size := (Array.getElem?_eq_some_iff.1 hio).1
        have hiu : listed.getD i false = false := by
          rw [Array.getD_eq_getD_getElem?] at hiu ⊢
          rw [Array.getElem?_eq_getElem (by omega)] at hiu ⊢
          exact hiu
        have hin : i < n := by
          rcases Nat.lt_or_ge i n with h | h
          · exact h
          · have := hseq listed i h hi hclosed m (by omega)
            rw [hun] at this; cases this
        obtain ⟨p, hp1, hp2⟩ := pget i o (by simpa using hio)
        have hpt : (ps.take n)[i]? = some p := (tget i p).2 ⟨hin, hp1⟩
        have hat := hvs i p hpt
        have hat' : HeadAt ctx call fr s.2.1 p (mixF (ps.take n) vs (fun i => listed.getD i false) 0 s.1) (vs.getD i .poison) := by
          refine hat.congr fun t ht => ?_
          by_cases hw : ∃ (j : Nat) (q : POp), (ps.take n)[j]? = some q ∧ q.dst = some t ∧ j ≠ i
          · obtain ⟨j, q, hj, hd, hji⟩ := hw
            have hj' := (tget j q).1 hj
            have hb := hlook i j p q t hin hj'.1 (fun h => hji h.symm) hp1 hj'.2 hd ht
            have hjL := hclo listed i hi hclosed j hb
            rw [mix_some _ _ _ _ _ hone hvl j q (by simpa using hjL) hj hd, lex_some _ _ _ _ hone hvl j q (hbl i j hilt hb) hj hd]
          · rw [mix_none _ _ _ _ _ (fun j q hj hq hd => by
              by_cases hji : j = i
              · subst hji; simp at hj; rw [Array.getD_eq_getD_getElem?] at hiu; rw [hiu] at hj; cases hj
              · exact hw ⟨j, q, hq, hd, hji⟩), lex_none _ _ _ _ (fun j q hj hq hd => hw ⟨j, q, hq, hd, by omega⟩)]
        have hmix' : upd (mixF (ps.take n) vs (fun i => listed.getD i false) 0 s.1) p.dst (vs.getD i .poison) = mixF (ps.take n) vs (fun j => (listed.setIfInBounds i true).getD j false) 0 s.1 := by
          funext t
          by_cases ht : p.dst = some t
          · rw [mix_some _ _ _ _ _ hone hvl i p (by rw [getD_set (by omega)]; simp) hpt ht]
            simp [upd, ht]
          · have hu : upd (mixF (ps.take n) vs (fun i => listed.getD i false) 0 s.1) p.dst (vs.getD i .poison) t = mixF (ps.take n) vs (fun i => listed.getD i false) 0 s.1 t := by
              unfold upd
              cases hd : p.dst with
              | none => rfl
              | some d =>
                have : t ≠ d := by rintro rfl; exact ht hd
                simp [this]
            rw [hu]
            by_cases hw : ∃ (j : Nat) (q : POp), (ps.take n)[j]? = some q ∧ q.dst = some t ∧ listed.getD j false = true
            · obtain ⟨j, q, hj, hd, hjL⟩ := hw
              have hji : j ≠ i := by rintro rfl; rw [hiu] at hjL; cases hjL
              rw [mix_some _ _ _ _ _ hone hvl j q (by simpa using hjL) hj hd, mix_some _ _ _ _ _ hone hvl j q (by rw [getD_set (by omega), Nat.zero_add, if_neg hji]; exact hjL) hj hd]
            · rw [mix_none _ _ _ _ _ (fun j q hj hq hd => hw ⟨j, q, hq, hd, by simpa using hj⟩), mix_none _ _ _ _ _ (fun j q hj hq hd => by
                rw [getD_set (by omega), Nat.zero_add] at hj
                by_cases hji : j = i
                · subst hji
                  rw [hpt] at hq; injection hq with hq; subst hq
                  exact ht hd
                · rw [if_neg hji] at hj; exact hw ⟨j, q, hq, hd, hj⟩)]
        have next : ∀ g' w' a', Rel fr bd (upd (mixF (ps.take n) vs (fun i => listed.getD i false) 0 s.1) p.dst (vs.getD i .poison), s.2.1, s.2.2 || false) g' w' a' → Evo s.2.1.length g w g' w' → s.2.1.length ≤ s.2.1.length → wpAny P .any ops Q fuel (listed.setIfInBounds i true) a' w' := by
          intro g' w' a' hr' he' _
          rw [hmix', Bool.or_false] at hr'
          refine any_head hc hcall hps hn hlt hseq hclo hbl hone hlook hvl hvs h2 hq fuel _ g' w' a' (by simpa using hsz) ?_ ?_ (fun j hj => ?_) hr' (he.trans he')
          · have := cnt_set (L := fun i => listed.getD i false) (L' := fun j => (listed.setIfInBounds i true).getD j false) (i := i) hiu (by rw [getD_set (by omega)]; simp) (fun j hj => by rw [getD_set (by omega), if_neg hj]) ops.size
            rw [this, if_pos hilt]; omega
          · intro j hj k hk
            rw [getD_set (by omega)] at hj ⊢
            by_cases hki : k = i
            · rw [if_pos hki]
            · rw [if_neg hki]
              by_cases hji : j = i
              · subst hji; exact hclo listed j hi hclosed k hk
              · rw [if_neg hji] at hj; exact hclosed j hj k hk
          · rw [getD_set (by omega)] at hj
            by_cases hji : j = i
            · omega
            · rw [if_neg hji] at hj; exact hl j hj
        obtain ⟨hd, hcase⟩ := hat'
        rcases hcase with ⟨hw, hst⟩ | ⟨hw, hv⟩
        · exact wpOp_of_rel hc hcall hio hp2 hr hd hw (x := vs.getD i .poison) (S' := s.2.1) (e' := false) (by simpa using hst) _ _ next
        · exact wpOp_of_rel hc hcall hio hp2 hr hd hw (x := vs.getD i .poison) (S' := s.2.1) (e' := false) (by simpa using hv) _ _ next

theorem any_chain (hc : CtxTy P ctx) (hcall : CallOk P call) {ops : Array Oper} {ps : List POp} {n : Nat} (hps : popsOf m ops ops.toList = some ps) (hn : n ≤ ops.size)
    (hlt : ∀ (i : Nat) (o : Oper), ops[i]? = some o → ∀ e ∈ o.after, Region.binds .any e = true → e.on < i)
    (hseq : ∀ (listed : Array Bool) (i : Nat), n ≤ i → i ∈ Region.ready .any ops listed → (∀ j, listed.getD j false = true → ∀ k, ((aheadOf ops.toList []).getD j 0).testBit k = true → listed.getD k false = true) → ∀ j, j < i → listed.getD j false = true)
    (hclo : ∀ (listed : Array Bool) (i : Nat), i ∈ Region.ready .any ops listed → (∀ j, listed.getD j false = true → ∀ k, ((aheadOf ops.toList []).getD j 0).testBit k = true → listed.getD k false = true) → ∀ k, ((aheadOf ops.toList []).getD i 0).testBit k = true → listed.getD k false = true)
    (hbl : ∀ i k, i < ops.size → ((aheadOf ops.toList []).getD i 0).testBit k = true → k < i)
    (hone : Once (ps.take n)) (hlook : ∀ (i j : Nat) (p q : POp) (t : Nat), i < n → j < n → i ≠ j → ps[i]? = some p → ps[j]? = some q → q.dst = some t → t ∈ p.looks → ((aheadOf ops.toList []).getD i 0).testBit j = true)
    (hord : ∀ (i j : Nat) (p q : POp), i < n → j < i → ps[i]? = some p → ps[j]? = some q → chained p = true → chained q = true → ((aheadOf ops.toList []).getD i 0).testBit j = true)
    {σ0 : Nat → PV} {s' : St} {vs : List PV} {Ts : Nat → List SObj × Bool} (hvl : vs.length = (ps.take n).length) (hvs : ∀ (i : Nat) (p : POp), (ps.take n)[i]? = some p → ChainAt ctx call fr p (lex (ps.take n) vs σ0 i) (vs.getD i .poison) (Ts i) (Ts (i + 1)) (fun S' => S' ∈ ([] : List (List SObj)) ∨ ∃ j, j ≤ (ps.take n).length ∧ (Ts j).1 = S'))
    (h2 : evOps ctx call fr (ps.drop n) (lex (ps.take n) vs σ0 (ps.take n).length) (Ts n).1 (Ts n).2 = some s')
    {Q : Exit → Act → World → Prop} {g0 : G} {w0 : World} {N : Nat} (hq : ∀ g' w' a', Rel fr bd s' g' w' a' → Evo N g0 w0 g' w' → N ≤ s'.2.1.length → Q .normal a' w') :
    ∀ (fuel : Nat) (listed : Array Bool) (mm : Nat) (g : G) (w : World) (a : Act), listed.size = ops.size → cnt (fun i => listed.getD i false) ops.size + fuel = ops.size →
      (∀ j, listed.getD j false = true → ∀ k, ((aheadOf ops.toList []).getD j 0).testBit k = true → listed.getD k false = true) →
      (∀ i, listed.getD i false = true → i < n) → mm ≤ n → (∀ (j : Nat) (p : POp), j < mm → ps[j]? = some p → chained p = true → listed.getD j false = true) → (∀ (j : Nat) (p : POp), mm ≤ j → j < n → ps[j]? = some p → chained p = true → listed.getD j false = false) →
      Rel fr bd (mixF (ps.take n) vs (fun i => listed.getD i false) 0 σ0, (Ts mm).1, (Ts mm).2) g w a → Evo N g0 w0 g w → N ≤ (Ts mm).1.length →
      wpAny P .any ops Q fuel listed a w
  | fuel, listed, mm, g, w, a, hsz, hcnt, hclosed, hl, hmn', hlo, hhi, hr, he, hN => by
    obtain ⟨plen, pget⟩ := popsOf_get hps
    have hsize : ops.toList.length = ops.size := by simp
    have htl : (ps.take n).length = n := by simp; omega
    have tget : ∀ (i : Nat) (p : POp), (ps.take n)[i]? = some p ↔ i < n ∧ ps[i]? = some p := by
      intro i p
      rw [List.getElem?_take]
      by_cases h : i < n
      · simp [h]
      · simp [h]
    have hconst : ∀ (b c : Nat), c + b ≤ n → (∀ (j : Nat) (p : POp), c ≤ j → j < c + b → ps[j]? = some p → chained p = false) → Ts (c + b) = Ts c := by
      intro b
      induction b with
      | zero => intro c _ _; rfl
      | succ b ih =>
        intro c hcb hno
        have hlt' : c + b < ps.length := by omega
        have h1 := hvs (c + b) ps[c + b] ((tget _ _).2 ⟨by omega, List.getElem?_eq_getElem hlt'⟩)
        have h3 := hno (c + b) ps[c + b] (by omega) (by omega) (List.getElem?_eq_getElem hlt')
        have h4 : Ts (c + b + 1) = Ts (c + b) := by
          rcases h1.2 with h5 | h5 | h5
          · exact h5.2.2
          · rw [h3] at h5; cases h5.2.1
          · exact h5.2.2.1
        rw [show c + (b + 1) = c + b + 1 by omega, h4]
        exact ih c (by omega) fun j p h6 h7 => hno j p h6 (by omega)
    by_cases hall : ∀ i, i < n → listed.getD i false = true
    · -- all of them have come
      have hmix : mixF (ps.take n) vs (fun i => listed.getD i false) 0 σ0 = lex (ps.take n) vs σ0 (ps.take n).length := by
        funext t
        by_cases ht : ∃ (j : Nat) (q : POp), (ps.take n)[j]? = some q ∧ q.dst = some t
        · obtain ⟨j, q, hj, hd⟩ := ht
          have hjn := ((tget j q).1 hj).1
          rw [mix_some _ _ _ _ _ hone hvl j q (by simpa using hall j hjn) hj hd, lex_some _ _ _ _ hone hvl j q (by omega) hj hd]
        · rw [mix_none _ _ _ _ _ (fun j q _ hj hd => ht ⟨j, q, hj, hd⟩), lex_none _ _ _ _ (fun j q _ hj hd => ht ⟨j, q, hj, hd⟩)]
      rw [hmix] at hr
      have hTn : Ts n = Ts mm := by
        have := hconst (n - mm) mm (by omega) (fun j p h3 h4 h5 => by
          cases hc' : chained p with
          | false => rfl
          | true => have := hhi j p h3 (by omega) h5 hc'; rw [hall j (by omega)] at this; cases this)
        rwa [show mm + (n - mm) = n by omega] at this
      rw [← hTn] at hr hN
      exact any_tail hc hcall hps hlt hseq hclo hq fuel listed n _ g w a hsz hcnt hclosed (Nat.le_refl _) (fun i hi => ⟨hl i, hall i⟩) hr h2 he hN
    · have : ∃ m, m < n ∧ listed.getD m false = false := by
        apply Classical.byContradiction
        intro hno
        apply hall
        intro j hj
        cases hc : listed.getD j false with
        | true => rfl
        | false => exact absurd ⟨j, hj, hc⟩ hno
      obtain ⟨m, hmn, hun⟩ := this
      cases fuel with
      | zero => have := cnt_all _ _ (by omega) m (by omega); rw [hun] at this; cases this
      | succ fuel =>
        refine ⟨fun h => absurd h (ready_unlisted hsz hlt m (by omega) hun), fun i hi => ?_⟩
        obtain ⟨hiu, o, hio, _⟩ := mem_ready.1 hi
        have hilt : i < ops.size := (Array.getElem?_eq_some_iff.1 hio).1
        have hiu : listed.getD i false = false := by
          rw [Array.getD_eq_getD_getElem?] at hiu ⊢
          rw [Array.getElem?_eq_getElem (by omega)] at hiu ⊢
          exact hiu
        have hin : i < n := by
          rcases Nat.lt_or_ge i n with h | h
          · exact h
          · have := hseq listed i h hi hclosed m (by omega)
            rw [hun] at this; cases this
        obtain ⟨p, hp1, hp2⟩ := pget i o (by simpa using hio)
        have hpt : (ps.take n)[i]? = some p := (tget i p).2 ⟨hin, hp1⟩
        have hat := hvs i p hpt
        have hat' : ChainAt ctx call fr p (mixF (ps.take n) vs (fun i => listed.getD i false) 0 σ0) (vs.getD i .poison) (Ts i) (Ts (i + 1)) (fun S' => S' ∈ ([] : List (List SObj)) ∨ ∃ j, j ≤ (ps.take n).length ∧ (Ts j).1 = S') := by
          refine hat.congr fun t ht => ?_
          by_cases hw : ∃ (j : Nat) (q : POp), (ps.take n)[j]? = some q ∧ q.dst = some t ∧ j ≠ i
          · obtain ⟨j, q, hj, hd, hji⟩ := hw
            have hj' := (tget j q).1 hj
            have hb := hlook i j p q t hin hj'.1 (fun h => hji h.symm) hp1 hj'.2 hd ht
            have hjL := hclo listed i hi hclosed j hb
            rw [mix_some _ _ _ _ _ hone hvl j q (by simpa using hjL) hj hd, lex_some _ _ _ _ hone hvl j q (hbl i j hilt hb) hj hd]
          · rw [mix_none _ _ _ _ _ (fun j q hj hq hd => by
              by_cases hji : j = i
              · subst hji; simp at hj; rw [Array.getD_eq_getD_getElem?] at hiu; rw [hiu] at hj; cases hj
              · exact hw ⟨j, q, hq, hd, hji⟩), lex_none _ _ _ _ (fun j q hj hq hd => hw ⟨j, q, hq, hd, by omega⟩)]
        have hmix' : upd (mixF (ps.take n) vs (fun i => listed.getD i false) 0 σ0) p.dst (vs.getD i .poison) = mixF (ps.take n) vs (fun j => (listed.setIfInBounds i true).getD j false) 0 σ0 := by
          funext t
          by_cases ht : p.dst = some t
          · rw [mix_some _ _ _ _ _ hone hvl i p (by rw [getD_set (by omega)]; simp) hpt ht]
            simp [upd, ht]
          · have hu : upd (mixF (ps.take n) vs (fun i => listed.getD i false) 0 σ0) p.dst (vs.getD i .poison) t = mixF (ps.take n) vs (fun i => listed.getD i false) 0 σ0 t := by
              unfold upd
              cases hd : p.dst with
              | none => rfl
              | some d =>
                have : t ≠ d := by rintro rfl; exact ht hd
                simp [this]
            rw [hu]
            by_cases hw : ∃ (j : Nat) (q : POp), (ps.take n)[j]? = some q ∧ q.dst = some t ∧ listed.getD j false = true
            · obtain ⟨j, q, hj, hd, hjL⟩ := hw
              have hji : j ≠ i := by rintro rfl; rw [hiu] at hjL; cases hjL
              rw [mix_some _ _ _ _ _ hone hvl j q (by simpa using hjL) hj hd, mix_some _ _ _ _ _ hone hvl j q (by rw [getD_set (by omega), Nat.zero_add, if_neg hji]; exact hjL) hj hd]
            · rw [mix_none _ _ _ _ _ (fun j q hj hq hd => hw ⟨j, q, hq, hd, by simpa using hj⟩), mix_none _ _ _ _ _ (fun j q hj hq hd => by
                rw [getD_set (by omega), Nat.zero_add] at hj
                by_cases hji : j = i
                · subst hji
                  rw [hpt] at hq; injection hq with hq; subst hq
                  exact ht hd
                · rw [if_neg hji] at hj; exact hw ⟨j, q, hq, hd, hj⟩)]
        have next : ∀ (m' : Nat), m' ≤ n → (∀ (j : Nat) (q : POp), j < m' → ps[j]? = some q → chained q = true → (listed.setIfInBounds i true).getD j false = true) → (∀ (j : Nat) (q : POp), m' ≤ j → j < n → ps[j]? = some q → chained q = true → (listed.setIfInBounds i true).getD j false = false) →
            ∀ g' w' a', Rel fr bd (upd (mixF (ps.take n) vs (fun i => listed.getD i false) 0 σ0) p.dst (vs.getD i .poison), (Ts m').1, (Ts m').2) g' w' a' → Evo (Ts mm).1.length g w g' w' → (Ts mm).1.length ≤ (Ts m').1.length → wpAny P .any ops Q fuel (listed.setIfInBounds i true) a' w' := by
          intro m' hm' hlo' hhi' g' w' a' hr' he' hle'
          rw [hmix'] at hr'
          refine any_chain hc hcall hps hn hlt hseq hclo hbl hone hlook hord hvl hvs h2 hq fuel _ m' g' w' a' (by simpa using hsz) ?_ ?_ (fun j hj => ?_) hm' hlo' hhi' hr' (he.trans (he'.mono hN)) (Nat.le_trans hN hle')
          · have := cnt_set (L := fun i => listed.getD i false) (L' := fun j => (listed.setIfInBounds i true).getD j false) (i := i) hiu (by rw [getD_set (by omega)]; simp) (fun j hj => by rw [getD_set (by omega), if_neg hj]) ops.size
            rw [this, if_pos hilt]; omega
          · intro j hj k hk
            rw [getD_set (by omega)] at hj ⊢
            by_cases hki : k = i
            · rw [if_pos hki]
            · rw [if_neg hki]
              by_cases hji : j = i
              · subst hji; exact hclo listed j hi hclosed k hk
              · rw [if_neg hji] at hj; exact hclosed j hj k hk
          · rw [getD_set (by omega)] at hj
            by_cases hji : j = i
            · omega
            · rw [if_neg hji] at hj; exact hl j hj
        have hqp : ∀ {q : POp}, ps[i]? = some q → q = p := fun h => by rw [hp1] at h; exact (Option.some.inj h).symm
        have hquiet : chained p = false → ∀ g' w' a', Rel fr bd (upd (mixF (ps.take n) vs (fun i => listed.getD i false) 0 σ0) p.dst (vs.getD i .poison), (Ts mm).1, (Ts mm).2 || false) g' w' a' → Evo (Ts mm).1.length g w g' w' → (Ts mm).1.length ≤ (Ts mm).1.length → wpAny P .any ops Q fuel (listed.setIfInBounds i true) a' w' := by
          intro hch g' w' a' hr' he' hle'
          rw [Bool.or_false] at hr'
          refine next mm hmn' (fun j q h3 h4 h5 => ?_) (fun j q h3 h4 h5 h6 => ?_) g' w' a' hr' he' hle'
          · rw [getD_set (by omega)]
            by_cases hji : j = i
            · simp [hji]
            · rw [if_neg hji]; exact hlo j q h3 h4 h5
          · rw [getD_set (by omega)]
            by_cases hji : j = i
            · subst hji; rw [hqp h5] at h6; rw [h6] at hch; cases hch
            · rw [if_neg hji]; exact hhi j q h3 h4 h5 h6
        have hturn : chained p = true → Ts i = Ts mm ∧ ∀ g' w' a', Rel fr bd (upd (mixF (ps.take n) vs (fun i => listed.getD i false) 0 σ0) p.dst (vs.getD i .poison), (Ts (i + 1)).1, (Ts (i + 1)).2) g' w' a' → Evo (Ts mm).1.length g w g' w' → (Ts mm).1.length ≤ (Ts (i + 1)).1.length → wpAny P .any ops Q fuel (listed.setIfInBounds i true) a' w' := by
          intro hch
          have hmi : mm ≤ i := by
            rcases Nat.lt_or_ge i mm with h | h
            · have := hlo i p h hp1 hch; rw [hiu] at this; cases this
            · exact h
          have hbef : ∀ (j : Nat) (q : POp), j < i → ps[j]? = some q → chained q = true → listed.getD j false = true := fun j q h3 h4 h5 => hclo listed i hi hclosed j (hord i j p q hin h3 hp1 h4 hch h5)
          refine ⟨?_, next (i + 1) (by omega) (fun j q h3 h4 h5 => ?_) (fun j q h3 h4 h5 h6 => ?_)⟩
          · have := hconst (i - mm) mm (by omega) (fun j q h3 h4 h5 => by
              cases hc' : chained q with
              | false => rfl
              | true => have h6 := hhi j q h3 (by omega) h5 hc'; rw [hbef j q (by omega) h5 hc'] at h6; cases h6)
            rwa [show mm + (i - mm) = i by omega] at this
          · rw [getD_set (by omega)]
            by_cases hji : j = i
            · simp [hji]
            · rw [if_neg hji]; exact hbef j q (by omega) h4 h5
          · rw [getD_set (by omega), if_neg (by omega)]
            exact hhi j q (by omega) h4 h5 h6
        have hmem : (fun S' => S' ∈ ([] : List (List SObj)) ∨ ∃ j, j ≤ (ps.take n).length ∧ (Ts j).1 = S') (Ts mm).1 := .inr ⟨mm, by omega, rfl⟩
        obtain ⟨hd, hcase⟩ := hat'
        rcases hcase with ⟨hw, hv, hT⟩ | ⟨hw, hch, e, hst, hT⟩ | ⟨hw, hch, hT, hst⟩
        · refine wpOp_of_rel hc hcall hio hp2 hr hd hw (x := vs.getD i .poison) (S' := (Ts mm).1) (e' := false) (by simpa using hv) _ _ ?_
          by_cases hch : chained p = true
          · obtain ⟨t1, t2⟩ := hturn hch
            rw [hT, t1] at t2
            intro g' w' a' hr' he' hle'
            rw [Bool.or_false] at hr'
            exact t2 g' w' a' hr' he' hle'
          · exact hquiet (by simpa using hch)
        · obtain ⟨t1, t2⟩ := hturn hch
          rw [t1] at hst hT
          refine wpOp_of_rel hc hcall hio hp2 hr hd hw (x := vs.getD i .poison) (S' := (Ts (i + 1)).1) (e' := e) (by simpa using hst) _ _ ?_
          intro g' w' a' hr' he' hle'
          refine t2 g' w' a' ?_ he' hle'
          rw [hT]; exact hr'
        · exact wpOp_of_rel hc hcall hio hp2 hr hd hw (x := vs.getD i .poison) (S' := (Ts mm).1) (e' := false) (by simpa using hst _ hmem) _ _ (hquiet hch)

theorem draw_sound (hc : CtxTy P ctx) (hcall : CallOk P call) (hm : P.follows .mixedOrders = true) {id : Nat} {ops : Array Oper} {ps : List POp} {n : Nat} (hps : popsOf m ops ops.toList = some ps) (hok : drawOk ops.toList ps n = true)
    {s s' : St} {σ : Nat → PV} {g : G} {w : World} {a : Act} {Q : Exit → Act → World → Prop} (h1 : evHead ctx call fr s.2.1 (ps.take n) s.1 = some σ) (h2 : evOps ctx call fr (ps.drop n) σ s.2.1 s.2.2 = some s') (hr : Rel fr bd s g w a)
    (hq : ∀ g' w' a', Rel fr bd s' g' w' a' → Evo s.2.1.length g w g' w' → s.2.1.length ≤ s'.2.1.length → Q .normal a' w') : (Code.region id ops true).wp P Q a w := by
  obtain ⟨plen, pget⟩ := popsOf_get hps
  have hsize : ops.toList.length = ops.size := by simp
  simp only [drawOk, Bool.and_eq_true, decide_eq_true_eq] at hok
  obtain ⟨⟨⟨c1, c2⟩, c3⟩, c4⟩ := hok
  have zget : ∀ (i : Nat) (o : Oper), ops[i]? = some o → (o, i) ∈ ops.toList.zipIdx := by
    intro i o hi
    rw [List.mem_zipIdx_iff_getElem?]
    simpa using hi
  have hlt : ∀ (i : Nat) (o : Oper), ops[i]? = some o → ∀ e ∈ o.after, Region.binds .any e = true → e.on < i := by
    intro i o hi e he hb
    have := List.all_eq_true.1 c2 (o, i) (zget i o hi)
    have := List.all_eq_true.1 this e (by simpa using he)
    simpa [hb] using this
  have hbit : ∀ i k, i < ops.size → ((aheadOf ops.toList []).getD i 0).testBit k = true → ∃ o, ops[i]? = some o ∧ ∃ e ∈ o.after, Region.binds .any e = true ∧ (k = e.on ∨ ((aheadOf ops.toList []).getD e.on 0).testBit k = true) := by
    intro i k hi hb
    obtain ⟨e, e1, e2, e3⟩ := ahead_bit (l := ops.toList) (o := ops[i]) (by simp [hi]) hb (fun e he hb => hlt i ops[i] (by simp [hi]) e (by simpa using he) hb)
    exact ⟨ops[i], by simp [hi], e, by simpa using e1, e2, e3⟩
  have hbl : ∀ i k, i < ops.size → ((aheadOf ops.toList []).getD i 0).testBit k = true → k < i := by
    intro i
    induction i using Nat.strongRecOn with
    | _ i ih =>
      intro k hi hb
      obtain ⟨o, ho, e, e1, e2, e3⟩ := hbit i k hi hb
      have hei := hlt i o ho e e1 e2
      rcases e3 with rfl | e3
      · exact hei
      · have := ih e.on hei k (by omega) e3
        omega
  have hclo : ∀ (listed : Array Bool) (i : Nat), i ∈ Region.ready .any ops listed → (∀ j, listed.getD j false = true → ∀ k, ((aheadOf ops.toList []).getD j 0).testBit k = true → listed.getD k false = true) → ∀ k, ((aheadOf ops.toList []).getD i 0).testBit k = true → listed.getD k false = true := by
    intro listed i hi hcl k hk
    obtain ⟨_, o, ho, h3⟩ := mem_ready.1 hi
    have hil : i < ops.size := (Array.getElem?_eq_some_iff.1 ho).1
    obtain ⟨o', ho', e, e1, e2, e3⟩ := hbit i k hil hk
    rw [ho] at ho'; injection ho' with ho'; subst ho'
    have hL := h3 e e1 e2
    rcases e3 with rfl | e3
    · exact hL
    · exact hcl _ hL k e3
  have hseq : ∀ (listed : Array Bool) (i : Nat), n ≤ i → i ∈ Region.ready .any ops listed → (∀ j, listed.getD j false = true → ∀ k, ((aheadOf ops.toList []).getD j 0).testBit k = true → listed.getD k false = true) → ∀ j, j < i → listed.getD j false = true := by
    intro listed i hni hi hcl j hj
    obtain ⟨_, o, ho, _⟩ := mem_ready.1 hi
    have hil : i < ops.size := (Array.getElem?_eq_some_iff.1 ho).1
    have := List.all_eq_true.1 c4 i (by simp; omega)
    simp only [Bool.or_eq_true, decide_eq_true_eq] at this
    rcases this with h | h
    · omega
    · exact hclo listed i hi hcl j (List.all_eq_true.1 h j (by simpa using hj))
  have pz : ∀ (i : Nat) (p : POp), i < n → ps[i]? = some p → (p, i) ∈ (ps.take n).zipIdx := by
    intro i p hi hp
    rw [List.mem_zipIdx_iff_getElem?]
    simpa [List.getElem?_take, hi] using hp
  have c3' : ∀ (i j : Nat) (p q : POp), i < n → j < n → i ≠ j → ps[i]? = some p → ps[j]? = some q → (p.dst = none ∨ p.dst ≠ q.dst) ∧ ∀ t, q.dst = some t → t ∈ p.looks → ((aheadOf ops.toList []).getD i 0).testBit j = true := by
    intro i j p q hi hj hij hp hq
    have := List.all_eq_true.1 c3 (p, i) (pz i p hi hp)
    have := List.all_eq_true.1 this (q, j) (pz j q hj hq)
    simp only [Bool.or_eq_true, Bool.and_eq_true, beq_iff_eq, hij, false_or, bne_iff_ne, Option.isNone_iff_eq_none] at this
    refine ⟨this.1, fun t ht hl => ?_⟩
    have h2 := this.2
    rw [ht] at h2
    simpa [hl] using h2
  have tget : ∀ (i : Nat) (p : POp), (ps.take n)[i]? = some p → i < n ∧ ps[i]? = some p := by
    intro i p h
    rw [List.getElem?_take] at h
    by_cases hi : i < n
    · rw [if_pos hi] at h; exact ⟨hi, h⟩
    · rw [if_neg hi] at h; cases h
  have hone : Once (ps.take n) := by
    intro i j p q t hi hj hp hq
    by_cases hij : i = j
    · exact hij
    · have := (c3' i j p q (tget i p hi).1 (tget j q hj).1 hij (tget i p hi).2 (tget j q hj).2).1
      rw [hp, hq] at this
      simp at this
  obtain ⟨vs, v1, v2, v3⟩ := head_trace _ _ _ h1
  rw [← v2] at h2
  refine wp_region_any hm ?_
  have hfalse : ∀ i, (Array.replicate ops.size false).getD i false = false := by
    intro i
    rw [Array.getD_eq_getD_getElem?, Array.getElem?_replicate]
    split <;> rfl
  have hmix : mixF (ps.take n) vs (fun i => (Array.replicate ops.size false).getD i false) 0 s.1 = s.1 := by
    funext t
    exact mix_none _ _ _ _ _ (fun j q hj => by rw [hfalse] at hj; cases hj)
  have hcnt0 : ∀ k, cnt (fun i => (Array.replicate ops.size false).getD i false) k = 0 := by
    intro k
    induction k with
    | zero => rfl
    | succ k ih => unfold cnt; rw [ih, hfalse]; rfl
  refine any_head hc hcall hps (by omega) hlt hseq hclo hbl hone (fun i j p q t hi hj hij hp hq hd hl => (c3' i j p q hi hj hij hp hq).2 t hd hl) v1 v3 h2 hq ops.size _ g _ a (by simp) (by rw [hcnt0]; omega)
    (fun j hj => by rw [hfalse] at hj; cases hj) (fun i hi => by rw [hfalse] at hi; cases hi) ?_ (Evo.drawn rfl rfl rfl rfl)
  rw [hmix]
  have he : Evo s.2.1.length g w g { w with drawn := w.drawn + 1 } := Evo.drawn rfl rfl rfl rfl
  exact ⟨hr.slots.evo he, hr.size, hr.defers, hr.r.drawn rfl rfl rfl rfl⟩


theorem chain_sound (hc : CtxTy P ctx) (hcall : CallOk P call) (hm : P.follows .mixedOrders = true) {id : Nat} {ops : Array Oper} {ps : List POp} {n : Nat} (hps : popsOf m ops ops.toList = some ps) (hok : drawOk ops.toList ps n = true) (hco : chainOk ops.toList ps n = true)
    {s s1 s' : St} {g : G} {w : World} {a : Act} {Q : Exit → Act → World → Prop} (h1 : evChain ctx call fr (ps.take n) [] [] s.1 s.2.1 s.2.2 = some s1) (h2 : evOps ctx call fr (ps.drop n) s1.1 s1.2.1 s1.2.2 = some s') (hr : Rel fr bd s g w a)
    (hq : ∀ g' w' a', Rel fr bd s' g' w' a' → Evo s.2.1.length g w g' w' → s.2.1.length ≤ s'.2.1.length → Q .normal a' w') : (Code.region id ops true).wp P Q a w := by
  obtain ⟨plen, pget⟩ := popsOf_get hps
  have hsize : ops.toList.length = ops.size := by simp
  simp only [drawOk, Bool.and_eq_true, decide_eq_true_eq] at hok
  obtain ⟨⟨⟨c1, c2⟩, c3⟩, c4⟩ := hok
  have zget : ∀ (i : Nat) (o : Oper), ops[i]? = some o → (o, i) ∈ ops.toList.zipIdx := by
    intro i o hi
    rw [List.mem_zipIdx_iff_getElem?]
    simpa using hi
  have hlt : ∀ (i : Nat) (o : Oper), ops[i]? = some o → ∀ e ∈ o.after, Region.binds .any e = true → e.on < i := by
    intro i o hi e he hb
    have := List.all_eq_true.1 c2 (o, i) (zget i o hi)
    have := List.all_eq_true.1 this e (by simpa using he)
    simpa [hb] using this
  have hbit : ∀ i k, i < ops.size → ((aheadOf ops.toList []).getD i 0).testBit k = true → ∃ o, ops[i]? = some o ∧ ∃ e ∈ o.after, Region.binds .any e = true ∧ (k = e.on ∨ ((aheadOf ops.toList []).getD e.on 0).testBit k = true) := by
    intro i k hi hb
    obtain ⟨e, e1, e2, e3⟩ := ahead_bit (l := ops.toList) (o := ops[i]) (by simp [hi]) hb (fun e he hb => hlt i ops[i] (by simp [hi]) e (by simpa using he) hb)
    exact ⟨ops[i], by simp [hi], e, by simpa using e1, e2, e3⟩
  have hbl : ∀ i k, i < ops.size → ((aheadOf ops.toList []).getD i 0).testBit k = true → k < i := by
    intro i
    induction i using Nat.strongRecOn with
    | _ i ih =>
      intro k hi hb
      obtain ⟨o, ho, e, e1, e2, e3⟩ := hbit i k hi hb
      have hei := hlt i o ho e e1 e2
      rcases e3 with rfl | e3
      · exact hei
      · have := ih e.on hei k (by omega) e3
        omega
  have hclo : ∀ (listed : Array Bool) (i : Nat), i ∈ Region.ready .any ops listed → (∀ j, listed.getD j false = true → ∀ k, ((aheadOf ops.toList []).getD j 0).testBit k = true → listed.getD k false = true) → ∀ k, ((aheadOf ops.toList []).getD i 0).testBit k = true → listed.getD k false = true := by
    intro listed i hi hcl k hk
    obtain ⟨_, o, ho, h3⟩ := mem_ready.1 hi
    have hil : i < ops.size := (Array.getElem?_eq_some_iff.1 ho).1
    obtain ⟨o', ho', e, e1, e2, e3⟩ := hbit i k hil hk
    rw [ho] at ho'; injection ho' with ho'; subst ho'
    have hL := h3 e e1 e2
    rcases e3 with rfl | e3
    · exact hL
    · exact hcl _ hL k e3
  have hseq : ∀ (listed : Array Bool) (i : Nat), n ≤ i → i ∈ Region.ready .any ops listed → (∀ j, listed.getD j false = true → ∀ k, ((aheadOf ops.toList []).getD j 0).testBit k = true → listed.getD k false = true) → ∀ j, j < i → listed.getD j false = true := by
    intro listed i hni hi hcl j hj
    obtain ⟨_, o, ho, _⟩ := mem_ready.1 hi
    have hil : i < ops.size := (Array.getElem?_eq_some_iff.1 ho).1
    have := List.all_eq_true.1 c4 i (by simp; omega)
    simp only [Bool.or_eq_true, decide_eq_true_eq] at this
    rcases this with h | h
    · omega
    · exact hclo listed i hi hcl j (List.all_eq_true.1 h j (by simpa using hj))
  have pz : ∀ (i : Nat) (p : POp), i < n → ps[i]? = some p → (p, i) ∈ (ps.take n).zipIdx := by
    intro i p hi hp
    rw [List.mem_zipIdx_iff_getElem?]
    simpa [List.getElem?_take, hi] using hp
  have c3' : ∀ (i j : Nat) (p q : POp), i < n → j < n → i ≠ j → ps[i]? = some p → ps[j]? = some q → (p.dst = none ∨ p.dst ≠ q.dst) ∧ ∀ t, q.dst = some t → t ∈ p.looks → ((aheadOf ops.toList []).getD i 0).testBit j = true := by
    intro i j p q hi hj hij hp hq
    have := List.all_eq_true.1 c3 (p, i) (pz i p hi hp)
    have := List.all_eq_true.1 this (q, j) (pz j q hj hq)
    simp only [Bool.or_eq_true, Bool.and_eq_true, beq_iff_eq, hij, false_or, bne_iff_ne, Option.isNone_iff_eq_none] at this
    refine ⟨this.1, fun t ht hl => ?_⟩
    have h2 := this.2
    rw [ht] at h2
    simpa [hl] using h2
  have tget : ∀ (i : Nat) (p : POp), (ps.take n)[i]? = some p → i < n ∧ ps[i]? = some p := by
    intro i p h
    rw [List.getElem?_take] at h
    by_cases hi : i < n
    · rw [if_pos hi] at h; exact ⟨hi, h⟩
    · rw [if_neg hi] at h; cases h
  have hone : Once (ps.take n) := by
    intro i j p q t hi hj hp hq
    by_cases hij : i = j
    · exact hij
    · have := (c3' i j p q (tget i p hi).1 (tget j q hj).1 hij (tget i p hi).2 (tget j q hj).2).1
      rw [hp, hq] at this
      simp at this
  obtain ⟨vs, Ts, v1, v4, v5, v2, _, v3⟩ := chain_trace _ _ _ _ _ _ _ h1 (fun q hq => by cases hq)
  have hlen : (ps.take n).length = n := by simp; omega
  rw [hlen] at v5
  rw [← v2, ← v5] at h2
  have hord : ∀ (i j : Nat) (p q : POp), i < n → j < i → ps[i]? = some p → ps[j]? = some q → chained p = true → chained q = true → ((aheadOf ops.toList []).getD i 0).testBit j = true := by
    intro i j p q hi hj hp hq hcp hcq
    have := List.all_eq_true.1 hco (p, i) (pz i p hi hp)
    have := List.all_eq_true.1 this (q, j) (pz j q (by omega) hq)
    simpa [hcp, hcq, hj] using this
  refine wp_region_any hm ?_
  have hfalse : ∀ i, (Array.replicate ops.size false).getD i false = false := by
    intro i
    rw [Array.getD_eq_getD_getElem?, Array.getElem?_replicate]
    split <;> rfl
  have hmix : mixF (ps.take n) vs (fun i => (Array.replicate ops.size false).getD i false) 0 s.1 = s.1 := by
    funext t
    exact mix_none _ _ _ _ _ (fun j q hj => by rw [hfalse] at hj; cases hj)
  have hcnt0 : ∀ k, cnt (fun i => (Array.replicate ops.size false).getD i false) k = 0 := by
    intro k
    induction k with
    | zero => rfl
    | succ k ih => unfold cnt; rw [ih, hfalse]; rfl
  refine any_chain hc hcall hps (by omega) hlt hseq hclo hbl hone (fun i j p q t hi hj hij hp hq hd hl => (c3' i j p q hi hj hij hp hq).2 t hd hl) hord v1 v3 h2 hq ops.size _ 0 g _ a (by simp) (by rw [hcnt0]; omega)
    (fun j hj => by rw [hfalse] at hj; cases hj) (fun i hi => by rw [hfalse] at hi; cases hi) (Nat.zero_le _) (fun j p hj => by omega) (fun j p _ _ _ _ => hfalse j) ?_ (Evo.drawn rfl rfl rfl rfl) (by rw [v4]; exact Nat.le_refl _)
  rw [hmix, v4]
  have he : Evo s.2.1.length g w g { w with drawn := w.drawn + 1 } := Evo.drawn rfl rfl rfl rfl
  exact ⟨hr.slots.evo he, hr.size, hr.defers, hr.r.drawn rfl rfl rfl rfl⟩

theorem evCode_sound (hc : CtxTy P ctx) (hcall : CallOk P call) (hm : P.follows .mixedOrders = true) (k : Nat) {m : List Nat} : ∀ (c : Code) (pc : PC) (s s' : St) (x : Ex) (g : G) (w : World) (a : Act) (Q : Exit → Act → World → Prop), compile m c = some pc → evCode ctx call fr k pc s = some (x, s') → Rel fr bd s g w a →
    (∀ g' w' a', Rel fr bd s' g' w' a' → Evo s.2.1.length g w g' w' → s.2.1.length ≤ s'.2.1.length → Q x.to a' w') → c.wp P Q a w := by
  intro c
  induction c with
  | skip =>
    intro pc s s' x g w a Q hp h hr hq
    simp only [compile] at hp; injection hp with hp; subst hp
    simp only [evCode] at h; injection h with h; injection h with h1 h2; subst h1; subst h2
    exact wp_skip (hq g w a hr (Evo.refl _ _ _) (Nat.le_refl _))
  | label l =>
    intro pc s s' x g w a Q hp h hr hq
    simp only [compile] at hp; injection hp with hp; subst hp
    simp only [evCode] at h; injection h with h; injection h with h1 h2; subst h1; subst h2
    exact wp_label (hq g w a hr (Evo.refl _ _ _) (Nat.le_refl _))
  | region id ops draw =>
    intro pc s s' x g w a Q hp h hr hq
    cases draw with
    | true =>
      simp only [compile] at hp
      split at hp
      case h_2 => cases hp
      rename_i ps hps
      split at hp
      case isFalse => cases hp
      rename_i hok
      split at hp
      · split at hp
        case isFalse => cases hp
        rename_i hco
        injection hp with hp; subst hp
        simp only [evCode] at h
        split at h
        case h_2 => cases h
        rename_i s0 h1
        split at h
        case h_2 => cases h
        rename_i s1 h2
        injection h with h; injection h with h3 h4; subst h3; subst h4
        exact chain_sound hc hcall hm hps hok hco h1 h2 hr hq
      · injection hp with hp; subst hp
        simp only [evCode] at h
        split at h
        case h_2 => cases h
        rename_i σ h1
        split at h
        case h_2 => cases h
        rename_i s1 h2
        injection h with h; injection h with h3 h4; subst h3; subst h4
        exact draw_sound hc hcall hm hps hok h1 h2 hr hq
    | false =>
      simp only [compile] at hp
      cases hps : popsOf m ops ops.toList with
      | none => simp [hps] at hp
      | some ps =>
        simp [hps] at hp; subst hp
        simp only [evCode] at h
        split at h
        · rename_i s1 h1
          injection h with h; injection h with h2 h3; subst h2; subst h3
          exact wp_region_list (evOps_sound hc hcall ops.toList ps s s1 g w a hps h1 hr hq)
        · cases h
  | seq c1 c2 ih1 ih2 =>
    intro pc s s' x g w a Q hp h hr hq
    simp only [compile] at hp
    split at hp
    case h_2 => cases hp
    rename_i p1 p2 hp1 hp2
    injection hp with hp; subst hp
    simp only [evCode] at h
    split at h
    · rename_i s1 h1
      refine wp_seq (ih1 p1 s s1 .normal g w a _ hp1 h1 hr ?_)
      intro g1 w1 a1 r1 e1 l1
      exact ih2 p2 s1 s' x g1 w1 a1 Q hp2 h r1 (fun g' w' a' r' e' l' => hq g' w' a' r' (e1.trans (e'.mono l1)) (Nat.le_trans l1 l'))
    · rename_i hne
      refine wp_seq (ih1 p1 s s' x g w a _ hp1 h hr ?_)
      intro g1 w1 a1 r1 e1 l1
      cases x with
      | normal => exact absurd h (hne s')
      | exit id => exact hq g1 w1 a1 r1 e1 l1
      | ret => exact hq g1 w1 a1 r1 e1 l1
  | cond o c1 c2 ih1 ih2 =>
    intro pc s s' x g w a Q hp h hr hq
    simp only [compile] at hp
    split at hp
    case h_2 => cases hp
    rename_i p1 p2 hp1 hp2
    injection hp with hp; subst hp
    have ho := opd_sound hr.slots o
    simp only [evCode] at h
    split at h
    · rename_i hb
      rw [hb] at ho
      exact wp_cond_true ho.inv_bool (ih1 p1 s s' x g w a Q hp1 h hr hq)
    · rename_i hb
      rw [hb] at ho
      exact wp_cond_false ho.inv_bool (ih2 p2 s s' x g w a Q hp2 h hr hq)
    · cases h
  | block id c ih =>
    intro pc s s' x g w a Q hp h hr hq
    simp only [compile] at hp
    cases hp1 : compile m c with
    | none => simp [hp1] at hp
    | some p1 =>
      simp [hp1] at hp; subst hp
      simp only [evCode] at h
      split at h
      · rename_i i s1 h1
        injection h with h; injection h with h2 h3; subst h3
        refine wp_block (ih p1 s s1 (.exit i) g w a _ hp1 h1 hr ?_)
        intro g1 w1 a1 r1 e1 l1
        have := hq g1 w1 a1 r1 e1 l1
        rw [← h2] at this
        show (if i = id then Q .normal a1 w1 else Q (.exit i) a1 w1)
        split
        · rename_i hi; rw [if_pos hi] at this; exact this
        · rename_i hi; rw [if_neg hi] at this; exact this
      · rename_i hne
        refine wp_block (ih p1 s s' x g w a _ hp1 h hr ?_)
        intro g1 w1 a1 r1 e1 l1
        have := hq g1 w1 a1 r1 e1 l1
        cases x with
        | normal => exact this
        | exit i => exact absurd h (hne i s')
        | ret => exact this
  | loop c ih =>
    intro pc s s' x g w a Q hp h hr hq
    simp only [compile] at hp
    cases hp1 : compile m c with
    | none => simp [hp1] at hp
    | some p1 =>
      simp [hp1] at hp; subst hp
      simp only [evCode] at h
      exact wp_loop_rounds k (rounds_sound (fun s s' x g w a Q h hr hq => ih p1 s s' x g w a Q hp1 h hr hq) k s s' x g w a h hr hq)
  | exit id =>
    intro pc s s' x g w a Q hp h hr hq
    simp only [compile] at hp; injection hp with hp; subst hp
    simp only [evCode] at h; injection h with h; injection h with h1 h2; subst h1; subst h2
    exact wp_exit (hq g w a hr (Evo.refl _ _ _) (Nat.le_refl _))
  | ret =>
    intro pc s s' x g w a Q hp h hr hq
    simp only [compile] at hp; injection hp with hp; subst hp
    simp only [evCode] at h; injection h with h; injection h with h1 h2; subst h1; subst h2
    exact wp_ret (hq g w a hr (Evo.refl _ _ _) (Nat.le_refl _))
  | rangeFunc => intro pc s s' x g w a Q hp; simp [compile] at hp
  | scope c ih => intro pc s s' x g w a Q hp; simp [compile] at hp
  | goto l => intro pc s s' x g w a Q hp; simp [compile] at hp
  | refuse why => intro pc s s' x g w a Q hp; simp [compile] at hp

theorem R.take {S : List SObj} {w : World} {g : G} {base n : Nat} {bd : Nat → Nat} (h : R S w g n (lim base bd n)) (hn : n ≤ S.length) (hb : base ≤ n) (hbd : ∀ id, id < base → bd id ≤ base) :
    R (S.take n) w g base bd := by
  have hl : (S.take n).length = n := by simp; omega
  have get : ∀ (id : Nat) (o : SObj), (S.take n)[id]? = some o → S[id]? = some o ∧ id < n := by
    intro id o ho
    rw [List.getElem?_take] at ho
    split at ho
    · rename_i hi; exact ⟨ho, hi⟩
    · cases ho
  refine ⟨by omega, hbd, h.hfix, h.hpp, fun id o ho => ?_, fun i j o p hi hj => h.inj i j o p (get i o hi).1 (get j p hj).1⟩
  obtain ⟨h1, h2⟩ := get id o ho
  have := h.live id o h1
  rw [hl]
  unfold lim at this
  rw [if_pos h2] at this
  exact this

theorem V.bound0 {g : G} {w : World} {n m : Nat} {x : PV} {v : Value} (h : V g w n x v) (hc : x.clean = true) : V g w m x v := (h.clean hc).mono (Nat.zero_le _)

def resF (tmps : Array Value) : ResultVar → Sem Value
  | .tmp t => pure (tmps.getD t undef)
  | .cell a t => do loadVar t (← asAddr (tmps.getD a undef))

theorem results_eq (fn : Func) (tmps : Array Value) : results fn tmps = (do
    let vs ← fn.results.mapM (resF tmps)
    pure (if h : vs.size = 1 then vs[0] else .tuple vs)) := rfl

theorem resultsOf_sound (hc : CtxTy P ctx) {S : List SObj} {g : G} {w : World} {base : Nat} {σ : Nat → PV} {a : Act} (hR : R S w g base bd) (hs : Slots g w S.length σ a.tmps) : ∀ (rs : List ResultVar) (vs : List PV), resultsOf ctx S σ rs = some vs →
    ∃ us : List Value, (rs.mapM (resF a.tmps)).run P w = .ok us w ∧ us.length = vs.length ∧ ∀ (i : Nat) (c : PV), vs[i]? = some c → V g w S.length c (us.getD i undef)
  | [], vs, h => by
    simp [resultsOf] at h; subst h
    exact ⟨[], by simp, rfl, fun i c hi => by simp at hi⟩
  | r :: rs, vs, h => by
    simp only [resultsOf] at h
    split at h
    case h_2 => cases h
    rename_i x xs hx hxs
    injection h with h; subst h
    obtain ⟨us, h1, h2, h3⟩ := resultsOf_sound hc hR hs rs xs hxs
    have key : ∃ u, (resF a.tmps r).run P w = .ok u w ∧ V g w S.length x u := by
      cases r with
      | tmp t =>
        simp only [resultOf] at hx
        injection hx with hx; subst hx
        exact ⟨_, rfl, hs t⟩
      | cell ad t =>
        simp only [resultOf] at hx
        obtain ⟨v, k1, k2⟩ := step_load (P := P) (p := .tmp ad) hc hR hs hx
        refine ⟨v, ?_, k2⟩
        have hv := hs ad
        simp only [Act.eval] at k1
        simp only [resF]
        cases hsa : σ ad <;> rw [hsa] at hx <;> simp only [loadPV] at hx <;> try (cases hx; done)
        · rw [hsa] at hv
          have he := hv.inv_ptr.1
          rw [he] at k1 ⊢
          simpa [Instr.loadAt, Instr.sureAddr, asAddr] using k1
        · rw [hsa] at hv
          obtain ⟨b, o, u, he, _⟩ := hv.inv_iptr
          rw [he] at k1 ⊢
          simpa [Instr.loadAt, Instr.sureAddr, asAddr] using k1
    obtain ⟨u, k1, k2⟩ := key
    refine ⟨u :: us, ?_, by simp [h2], fun i c hi => ?_⟩
    · simp only [List.mapM_cons, Sem.run_bind, k1, Result.andThen_ok, h1, Sem.run_pure]
    · cases i with
      | zero => simp at hi; subst hi; exact k2
      | succ i => simpa using h3 i c (by simpa using hi)

def one (us : List Value) : Value := match us with
  | [u] => u
  | us => .tuple us.toArray

theorem results_run {fn : Func} {tmps : Array Value} {w : World} {us : List Value} (h : (fn.results.toList.mapM (resF tmps)).run P w = .ok us w) : (results fn tmps).run P w = .ok (one us) w := by
  rw [results_eq, Array.mapM_eq_mapM_toList]
  simp only [Sem.run_bind, Sem.run_map, h, Result.andThen_ok, Sem.run_pure]
  congr 1
  match us with
  | [] => rfl
  | [u] => rfl
  | u :: v :: us => simp [one]

theorem one_sound {g : G} {w : World} {n : Nat} {vs : List PV} {us : List Value} (hl : us.length = vs.length) (h : ∀ (i : Nat) (c : PV), vs[i]? = some c → V g w n c (us.getD i undef)) : V g w n (tupled vs) (one us) := by
  have tup : V g w n (.tup vs) (.tuple us.toArray) := .tup vs _ (by simpa using hl.symm) (fun i c hi => by rw [← getD_toList]; exact h i c hi)
  match vs, us, hl with
  | [], [], _ => exact tup
  | [x], [u], _ => simpa [tupled, one] using h 0 x rfl
  | x :: y :: vs, u :: v :: us, _ => exact tup

theorem R.rebase {S : List SObj} {w : World} {g : G} {base n : Nat} {bd : Nat → Nat} {e : Bool} (h : R S w g (if e then 0 else n) (lim base bd n)) (hn : n ≤ S.length) (hb : base ≤ n) (hbd : ∀ id, id < base → bd id ≤ base) :
    R S w g (if e then 0 else base) bd := by
  cases e with
  | true =>
    simp only [if_true] at h ⊢
    refine ⟨Nat.zero_le _, fun id hi => by omega, h.hfix, h.hpp, fun id o ho => ?_, h.inj⟩
    have := h.live id o ho
    unfold lim at this ⊢
    rw [if_neg (by omega)] at this ⊢
    exact this
  | false =>
    simp only [Bool.false_eq_true, if_false] at h ⊢
    refine ⟨by omega, hbd, h.hfix, h.hpp, fun id o ho => ?_, h.inj⟩
    have := h.live id o ho
    refine this.mono ?_
    unfold lim
    split
    · split
      · exact Nat.le_refl _
      · omega
    · rw [if_neg (by omega)]
      exact Nat.le_refl _

def IntrOk (P : Program) (env : Env) : Prop :=
  ∀ f h, env.intr f = some h → ∀ (args : List PV) (S : List SObj) (v : PV) (S' : List SObj) (e : Bool), h args S = some (v, S', e) →
    ∀ (w : World) (g : G) (base : Nat) (bd : Nat → Nat) (cargs : Array Value), R S w g base bd → args.length = cargs.size → (∀ (i : Nat) (c : PV), args[i]? = some c → V g w S.length c (cargs.getD i undef)) →
      (∃ fn, P.funcs[f]? = some fn ∧ fn.body.isNone = false ∧ fn.name ≠ "runtime.NumGoroutine") ∧
      Calls P f cargs w (fun en w' => ∃ rv, en = .returned rv ∧ Good base bd S g w v S' e rv w')

structure EnvOk (P : Program) (env : Env) : Prop where
  ty : CtxTy P env.ctx
  fns : ∀ f pf, env.fn f = some pf → FnOk P f pf
  intr : IntrOk P env
  mixed : P.follows .mixedOrders = true

theorem runBody_sound {env : Env} (hc : EnvOk P env) {k : Nat} (hcall : CallOk P (ev env k)) {f : FuncId} {pf : PFn} (hpf : env.fn f = some pf) {args : List PV} (hle : args.length ≤ pf.ntmps) {S : List SObj} {v : PV} {S' : List SObj} {e : Bool}
    (h : runBody env.ctx (ev env k) k pf args S = some (v, S', e)) {w : World} {g : G} {base : Nat} {bd : Nat → Nat} {cargs : Array Value} (hR : R S w g base bd) (hlen : args.length = cargs.size)
    (hargs : ∀ (i : Nat) (c : PV), args[i]? = some c → V g w S.length c (cargs.getD i undef)) :
    (∃ fn, P.funcs[f]? = some fn ∧ fn.body.isNone = false ∧ fn.name ≠ "runtime.NumGoroutine") ∧
    Calls P f cargs w (fun en w' => ∃ rv g', en = .returned rv ∧ V g' w' S'.length v rv ∧ R S' w' g' (if e then 0 else S.length) (lim base bd S.length) ∧ Evo S.length g w g' w' ∧ S.length ≤ S'.length) := by
  obtain ⟨fn, cd, mm, f1, f2, f6, f3, f4, f5⟩ := (hc.fns f pf hpf).ok
  refine ⟨⟨fn, f1, by rw [f2]; rfl, f5⟩, ?_⟩
  let s0 : St := (fun i => args.getD i (.tup []), S, false)
  have hr0 : Rel ⟨pf.ntmps, S.length⟩ (lim base bd S.length) s0 g w { tmps := cargs ++ Array.replicate (fn.ntmps - cargs.size) undef, defers := [] } := by
    refine ⟨fun i => ?_, by simp; omega, rfl, ?_⟩
    · show V g w S.length (args.getD i (.tup [])) _
      rw [List.getD_eq_getElem?_getD, Array.getD_eq_getD_getElem?]
      rcases Nat.lt_or_ge i cargs.size with hi | hi
      · rw [Array.getElem?_append_left hi, List.getElem?_eq_getElem (by omega), ← Array.getD_eq_getD_getElem?]
        exact hargs i _ (List.getElem?_eq_getElem (by omega))
      · rw [Array.getElem?_append_right hi, List.getElem?_eq_none (by omega)]
        have : ((Array.replicate (fn.ntmps - cargs.size) undef)[i - cargs.size]?).getD undef = undef := by
          rw [Array.getElem?_replicate]; split <;> rfl
        rw [this]
        exact .tup [] _ rfl (fun i c hi => by simp at hi)
    · simp only [s0, Bool.false_eq_true, if_false]
      refine ⟨Nat.le_refl _, fun id _ => lim_le hR id, hR.hfix, hR.hpp, fun id o ho => ?_, hR.inj⟩
      have := hR.live id o ho
      have hid := R.lt hR ho
      unfold lim
      rw [if_pos hid]
      exact this
  refine calls_of_wp f1 f2 ?_
  unfold runBody at h
  split at h
  · cases h
  · rename_i x σ' S1 e1 hne hev
    split at h
    case h_2 => cases h
    rename_i vs hvs
    refine evCode_sound hc.ty hcall hc.mixed k cd pf.body s0 (σ', S1, e1) x g w _ _ f6 hev hr0 ?_
    intro g1 w1 a1 r1 ev1 l1
    obtain ⟨us, u1, u2, u3⟩ := resultsOf_sound (P := P) hc.ty r1.r r1.slots pf.results vs hvs
    rw [← f4] at u1
    have hres := results_run u1
    have fin : ∃ rv g', Ending.returned (one us) = .returned rv ∧ V g' w1 S'.length v rv ∧ R S' w1 g' (if e then 0 else S.length) (lim base bd S.length) ∧ Evo S.length g w g' w1 ∧ S.length ≤ S'.length := by
      split at h
      · injection h with h; injection h with h1 h2; injection h2 with h2 h3
        subst h1; subst h2; subst h3
        exact ⟨_, g1, rfl, one_sound u2 u3, r1.r, ev1, l1⟩
      · injection h with h; injection h with h1 h2; injection h2 with h2 h3
        subst h1; subst h2; subst h3
        obtain ⟨g2, q1, q2, q3⟩ := frzL_sound vs us S1 g1 r1.r u2.symm u3
        obtain ⟨len1, len2⟩ := frzL_len vs S1
        rw [← len1] at q3
        exact ⟨_, g2, rfl, one_sound (u2.trans len2.symm) q3, q1, ev1.trans (q2.mono l1), by rw [len1]; exact l1⟩
    cases x with
    | normal => exact ⟨r1.defers, _, hres, fin⟩
    | exit id => exact absurd rfl (hne id)
    | ret => exact ⟨r1.defers, _, hres, fin⟩
  · cases h

theorem V.ghost {g g' : G} {w : World} {x : PV} {v : Value} (h : V g w 0 x v) (hpp : g'.pp = g.pp) : V g' w 0 x v := by
  induction h with
  | poison v => exact .poison v
  | bool b => exact .bool b
  | int k i => exact .int k i
  | str s => exact .str s
  | nilp => exact .nilp
  | ptr id off h ho => omega
  | iptr cells off b o u h1 h2 _ h4 ih => exact .iptr cells off b o u (by rw [hpp]; exact h1) h2 ih h4
  | nils => exact .nils
  | lst xs tag b o cap sz u hc h1 h2 h3 _ h5 ht ih =>
    refine .lst xs tag b o cap sz u hc h1 (by rw [hpp]; exact h2) h3 ih h5 ?_
    cases tag with
    | none => trivial
    | full => exact ht
    | tip id => exact absurd ht.1 (by omega)
  | lst0 a => exact .lst0 a
  | hsl id off len cap h ho hc => omega
  | emp a => exact .emp a
  | rsl id len h ho hc => omega
  | nilm => exact .nilm
  | map id h ho => omega
  | nilf => exact .nilf
  | fn f as bs as' bs' ha hb _ _ ih1 ih2 => exact .fn f as bs as' bs' ha hb ih1 ih2
  | nili => exact .nili
  | ifc t v v' _ ih => exact .ifc t v v' ih
  | agg cs cs' hl _ h2 ih => exact .agg cs cs' hl ih h2
  | tup cs cs' hl _ ih => exact .tup cs cs' hl ih

theorem behind_pure {S S1 : List SObj} {w w1 : World} {g g1 : G} {base b1 : Nat} {bd bd1 : Nat → Nat} (hR : R S w g base bd) (h1 : R S1 w1 g1 b1 bd1)
    (ev1 : Evo 0 { g with fix := fun k => k < w.heap.size } w g1 w1) {x : PV} {v : Value} (hV : V g1 w1 0 x v) : Good base bd S g w x S false v w1 := by
  have low : ∀ k, k < w.heap.size → w1.heap[k]? = w.heap[k]? := ev1.low
  have plow : ∀ k, k < w.heap.size → g1.pp k = g.pp k := ev1.pplow
  let g2 : G := { fix := g.fix, pp := g1.pp, loc := g.loc, hw := g.hw, tsz := g.tsz, obj := g.obj }
  have evo : Evo S.length g w g2 w1 := by
    refine ⟨ev1.pp, ev1.cell, fun _ _ => rfl, fun _ _ _ => rfl, fun _ _ => rfl, fun _ _ => Nat.le_refl _, fun _ _ _ => rfl, ?_, ev1.size, rfl, fun k hk => low k (hR.hfix k hk), fun k hk => plow k (hR.hfix k hk), ev1.os, ev1.tape, ev1.output⟩
    intro id cap _ _ _ ht
    have hlt := ht.lt
    exact TipC.heap (g := g) rfl rfl rfl (plow _ hlt) (low _ hlt) ht
  refine ⟨g2, (V.ghost (g' := g2) hV rfl).mono (Nat.zero_le _), ?_, evo, Nat.le_refl _⟩
  simp only [Bool.false_eq_true, if_false]
  refine ⟨hR.hbase, hR.hbd, fun k hk => by have := hR.hfix k hk; have := ev1.size; omega, h1.hpp, fun id o ho => ?_, hR.inj⟩
  have hl := hR.live id o ho
  refine hl.evo (evo.mono (lim_le hR id)) rfl rfl rfl rfl (fun hd _ => ?_)
  have hlt := hl.loc_lt hd
  exact ⟨low _ hlt, plow _ hlt⟩

theorem leave_good {S S1 : List SObj} {w w1 : World} {g g1 : G} {base : Nat} {bd : Nat → Nat} (hR : R S w g base bd) {v v' : PV} {rv : Value} {S' : List SObj} {e e1 : Bool} (hV : V g1 w1 S1.length v rv) (h1 : R S1 w1 g1 (if e1 then 0 else S.length) (lim base bd S.length))
    (ev1 : Evo S.length g w g1 w1) (l1 : S.length ≤ S1.length) (h : leave S.length v S1 e1 = (v', S', e)) : Good base bd S g w v' S' e rv w1 := by
  unfold leave at h
  split at h
  · rename_i hcl
    injection h with h1' h2; injection h2 with h2 h3
    subst h1'; subst h2; subst h3
    simp only [hcl.1, Bool.false_eq_true, if_false] at h1
    refine ⟨g1, hV.strip.bound0 hcl.2, ?_, ev1, by simp; omega⟩
    simp only [Bool.false_eq_true, if_false]
    exact h1.take l1 hR.hbase hR.hbd
  · injection h with h1' h2; injection h2 with h2 h3
    subst h1'; subst h2; subst h3
    exact ⟨g1, hV, h1.rebase l1 hR.hbase hR.hbd, ev1, l1⟩

theorem ev_sound {env : Env} (hc : EnvOk P env) : ∀ k, CallOk P (ev env k)
  | 0 => fun f args S v S' e h => by simp [ev] at h
  | k + 1 => by
    intro f args S v S' e h w g base bd cargs hR hlen hargs
    simp only [ev] at h
    split at h
    · rename_i hf hi
      exact hc.intr f hf hi args S v S' e h w g base bd cargs hR hlen hargs
    split at h
    · cases h
    rename_i pf hpf
    split at h
    case isFalse => cases h
    rename_i hle
    have general : ∀ (v1 : PV) (S1 : List SObj) (e1 : Bool), runBody env.ctx (ev env k) k pf args S = some (v1, S1, e1) → leave S.length v1 S1 e1 = (v, S', e) →
        (∃ fn, P.funcs[f]? = some fn ∧ fn.body.isNone = false ∧ fn.name ≠ "runtime.NumGoroutine") ∧ Calls P f cargs w (fun en w' => ∃ rv, en = .returned rv ∧ Good base bd S g w v S' e rv w') := by
      intro v1 S1 e1 hb hl
      obtain ⟨r1, r2⟩ := runBody_sound hc (ev_sound hc k) hpf hle hb hR hlen hargs
      refine ⟨r1, r2.mono ?_⟩
      rintro en w' ⟨rv, g', rfl, q1, q2, q3, q4⟩
      exact ⟨rv, rfl, leave_good hR q1 q2 q3 q4 hl⟩
    split at h
    · rename_i hcl
      split at h
      case h_2 => cases h
      rename_i v1 S1 e1 hb
      split at h
      · rename_i hvc
        injection h with h; injection h with h1 h2; injection h2 with h2 h3
        subst h1; subst h2; subst h3
        have hR0 : R [] w { g with fix := fun k => k < w.heap.size } 0 (fun _ => 0) :=
          ⟨Nat.le_refl _, fun _ _ => Nat.le_refl _, fun _ hk => hk, hR.hpp, fun id o ho => by simp at ho, fun i j o p ho => by simp at ho⟩
        obtain ⟨r1, r2⟩ := runBody_sound hc (ev_sound hc k) hpf (by simpa using hle) hb hR0 (by simpa using hlen) (fun i c hi => by
          have hcm := cleanL_mem hcl hi
          rw [List.getElem?_map] at hi
          cases hi' : args[i]? with
          | none => rw [hi'] at hi; cases hi
          | some d => rw [hi'] at hi; injection hi with hi; subst hi; exact ((hargs i d hi').strip.clean hcm).ghost rfl)
        refine ⟨r1, r2.mono ?_⟩
        rintro en w' ⟨rv, g', rfl, q1, q2, q3, q4⟩
        exact ⟨rv, rfl, behind_pure hR q2 q3 (q1.strip.clean hvc)⟩
      · split at h
        case h_2 => cases h
        rename_i v2 S2 e2 hb2
        injection h with h
        exact general v2 S2 e2 hb2 h
    · split at h
      case h_2 => cases h
      rename_i v2 S2 e2 hb2
      injection h with h
      exact general v2 S2 e2 hb2 h
end
end Go.Pam
namespace Go.Pam
theorem TyOk.mk2 {P : Program} {t : TypeId} {und : TypeDesc} {size bytes : Nat} {zp : PV} {eqok comp : Bool} {mets : List Method} {z : Value} {ms : Array Method} (h1 : P.underlying t = some und)
    (h2 : (P.info? t).map (fun i => (i.size, i.bytes, i.zero, i.comparable, i.methods)) = some (size, bytes, some z, comp, ms)) (h3 : absV z = some zp) (h4 : z.cells.size = zp.cells.length)
    (h5 : eqok = true → P.eqGuardType P.depth t = false ∧ P.stoodInHeld t = false) (h6 : ms.toList = mets) :
    TyOk P t { und := und, size := size, bytes := bytes, zero := zp, eqok := eqok, comp := comp, methods := mets } := by
  refine ⟨h1, ?_, h5⟩
  cases hi : P.info? t with
  | none => simp [hi] at h2
  | some i =>
    simp [hi] at h2
    obtain ⟨a1, a2, a3, a4, a5⟩ := h2
    exact ⟨i, z, rfl, a1, a2, a3, h3, h4, a4, by rw [a5]; exact h6⟩
end Go.Pam
