/- Soundness of the single steps, second part: operations that call nothing. -/
import Derived.Test.YthkjepoaddfoiaaPam6
namespace Go.Pam
set_option linter.unusedVariables false
set_option linter.unusedSimpArgs false
open Go.RowKit

def Slots (g : G) (w : World) (n : Nat) (σ : Nat → PV) (tmps : Array Value) : Prop := ∀ i, V g w n (σ i) (tmps.getD i undef)

theorem Slots.evo {n : Nat} {g g' : G} {w w' : World} {σ : Nat → PV} {tmps : Array Value} (h : Slots g w n σ tmps) (e : Evo n g w g' w') : Slots g' w' n σ tmps := fun i => (h i).evo e
theorem Slots.mono {n m : Nat} {g : G} {w : World} {σ : Nat → PV} {tmps : Array Value} (h : Slots g w n σ tmps) (hm : n ≤ m) : Slots g w m σ tmps := fun i => (h i).mono hm

theorem opd_sound {g : G} {w : World} {n : Nat} {σ : Nat → PV} {a : Act} (h : Slots g w n σ a.tmps) (x : Operand) : V g w n (opd σ x) (a.eval x) := by
  cases x with
  | tmp t => exact h t
  | const v =>
    simp only [opd, Act.eval]
    cases hv : absV v with
    | none => exact .poison v
    | some x => exact absV_sound g w n hv
  | global i => exact .poison _
  | func f => exact .fn _ [] [] _ _ rfl rfl (fun i c hc => by simp at hc) (fun i c hc => by simp at hc)

theorem Slots.put {n : Nat} {g : G} {w : World} {σ : Nat → PV} {a : Act} (h : Slots g w n σ a.tmps) {d : Option Nat} (hd : ∀ i, d = some i → i < a.tmps.size) {x : PV} {v : Value}
    (hv : V g w n x v) : Slots g w n (upd σ d x) (a.put d v).tmps := by
  cases d with
  | none => exact h
  | some d =>
    intro i
    simp only [upd, Act.put]
    rw [Array.getD_eq_getD_getElem?]
    by_cases hi : i = d
    · subst hi
      rw [if_pos rfl, Array.getElem?_setIfInBounds_self, if_pos (hd i rfl)]
      exact hv
    · rw [if_neg hi, Array.getElem?_setIfInBounds_ne (Ne.symm hi), ← Array.getD_eq_getD_getElem?]
      exact h i

theorem size_put (a : Act) (d : Option Nat) (v : Value) : (a.put d v).tmps.size = a.tmps.size := by
  cases d <;> simp [Act.put]

theorem R.weaken {S : List SObj} {w : World} {g : G} {base : Nat} {bd : Nat → Nat} (h : R S w g base bd) : R S w g 0 bd :=
  ⟨Nat.zero_le _, fun id hi => by omega, h.hfix, h.hpp, fun id o hi => by
    have := h.live id o hi
    have hle := lim_le h id
    simpa [lim] using this.mono hle, h.inj⟩

def Good (base : Nat) (bd : Nat → Nat) (S : List SObj) (g : G) (w : World) (x : PV) (S' : List SObj) (e : Bool) (v : Value) (w' : World) : Prop :=
  ∃ g', V g' w' S'.length x v ∧ R S' w' g' (if e then 0 else base) bd ∧ Evo S.length g w g' w' ∧ S.length ≤ S'.length

def StepOk (base : Nat) (bd : Nat → Nat) (S : List SObj) (g : G) (w : World) (x : PV) (S' : List SObj) (e : Bool) (run : Result Next) : Prop :=
  ∃ nx v w', run = .ok nx w' ∧ (nx = .value v ∨ (nx = .skip ∧ v = undef)) ∧ Good base bd S g w x S' e v w'

section
variable {P : Program} {ctx : Ctx} {S : List SObj} {g : G} {w : World} {base : Nat} {bd : Nat → Nat} {σ : Nat → PV} {a : Act}

theorem Good.same (hR : R S w g base bd) {x : PV} {v : Value} (hv : V g w S.length x v) : Good base bd S g w x S false v w :=
  ⟨g, hv, by simpa using hR, Evo.refl _ _ _, Nat.le_refl _⟩

theorem StepOk.pure (hR : R S w g base bd) {x : PV} {v : Value} {run : Result Next} (hrun : run = .ok (.value v) w) (hv : V g w S.length x v) : StepOk base bd S g w x S false run :=
  ⟨_, v, w, hrun, .inl rfl, Good.same hR hv⟩


theorem step_load (hc : CtxTy P ctx) (hR : R S w g base bd) (hs : Slots g w S.length σ a.tmps) {t : TypeId} {p : Operand} {x : PV} (h : loadPV ctx t (opd σ p) S = some x) :
    ∃ v, (Instr.loadAt t (a.eval p)).run P w = .ok v w ∧ V g w S.length x v := by
  have hp := opd_sound hs p
  unfold loadPV at h
  split at h
  · rename_i id off hop
    rw [hop] at hp
    obtain ⟨hv, hid, _⟩ := hp.inv_ptr
    split at h
    · rename_i cs hcs
      obtain ⟨l1, l2, l3, cur, e, l4, l5, l7, l6⟩ := hR.live id _ hcs
      have hle := lim_le hR id
      rw [hv]
      simp only [Instr.loadAt, Instr.sureAddr, Sem.run_bind, Sem.run_pure, Result.andThen_ok]
      have := loadVar_sound (P := P) (w := w) (n := S.length) hc (b := g.loc id) (o := 0) (u := fun j => cur.getD j undef) (cs := cs) (off := off) (x := x) (t := t) (g := g)
        (fun j c hj => by
          have hjl : j < cur.size := by have := (List.getElem?_eq_some_iff.1 hj).1; omega
          simp [World.cell?, l4, hjl])
        (fun j c hj => (l6 j c hj).mono hle) ?_ h
      · simpa using this
      · intro j hj
        simp only [Array.getD_eq_getD_getElem?, Array.getElem?_eq_getElem (show j < cur.size by omega), Option.getD_some]
        exact l7 _ (Array.getElem_mem _)
    · rename_i xs sz fz hcs
      obtain ⟨l1, l2, l3, cur, e, fr, l4, l5, l6, l7, l8, l9, l10⟩ := hR.live id _ hcs
      have hle := lim_le hR id
      cases hx : xs[off / sz]? with
      | none => rw [hx] at h; cases h
      | some y =>
      rw [hx] at h
      have h : partOf ctx t y.cells (off % sz) = some x := h
      have hi : off / sz < xs.length := (List.getElem?_eq_some_iff.1 hx).1
      have hy := l9 _ _ hx
      have hdm : off / sz * sz + off % sz = off := by rw [Nat.mul_comm]; exact Nat.div_add_mod off sz
      have hin : ∀ j, j < y.cells.length → off / sz * sz + j < cur.size := by
        intro j hj
        rw [l6]
        have : (off / sz + 1) * sz ≤ g.hw id * sz := Nat.mul_le_mul_right _ (by omega)
        rw [Nat.add_mul] at this; omega
      rw [hv]
      simp only [Instr.loadAt, Instr.sureAddr, Sem.run_bind, Sem.run_pure, Result.andThen_ok]
      have := loadVar_sound (P := P) (w := w) (n := S.length) hc (b := g.loc id) (o := off / sz * sz) (u := fun j => cur.getD (off / sz * sz + j) undef) (cs := y.cells) (off := off % sz) (x := x) (t := t) (g := g)
        (fun j c hj => by
          have hjl := hin j (List.getElem?_eq_some_iff.1 hj).1
          simp [World.cell?, l4, hjl])
        (fun j c hj => (l10 _ _ j c hx hj).mono hle) ?_ h
      · rw [hdm] at this; exact this
      · intro j hj
        simp only [Array.getD_eq_getD_getElem?, Array.getElem?_eq_getElem (hin j hj), Option.getD_some]
        exact l7 _ (Array.getElem_mem _)
    · cases h
  · rename_i cs off hop
    rw [hop] at hp
    obtain ⟨b, o, u, hv, h1, h2, h3, h4⟩ := hp.inv_iptr
    rw [hv]
    simp only [Instr.loadAt, Instr.sureAddr, Sem.run_bind, Sem.run_pure, Result.andThen_ok]
    exact loadVar_sound hc h2 h3 h4 h
  · cases h
end

theorem splice_get {cs xs : List PV} {off : Nat} (hle : off + xs.length ≤ cs.length) (j : Nat) :
    (cs.take off ++ xs ++ cs.drop (off + xs.length))[j]? = if j < off then cs[j]? else if j < off + xs.length then xs[j - off]? else cs[j]? := by
  have hl : (cs.take off).length = off := by simp; omega
  split
  · rename_i hj
    rw [List.append_assoc, List.getElem?_append_left (by omega), List.getElem?_take, if_pos hj]
  · rename_i hj
    rw [List.append_assoc, List.getElem?_append_right (by omega), hl]
    split
    · rw [List.getElem?_append_left (by omega)]
    · rw [List.getElem?_append_right (by omega), List.getElem?_drop]
      congr 1
      omega

theorem splice_len {cs xs : List PV} {off : Nat} (hle : off + xs.length ≤ cs.length) : (cs.take off ++ xs ++ cs.drop (off + xs.length)).length = cs.length := by
  simp; omega

theorem R.setRow {S : List SObj} {w : World} {g : G} {base : Nat} {bd : Nat → Nat} (h : R S w g base bd) {id : Nat} {cs xs : List PV} (hs : S[id]? = some (.cells cs)) {off : Nat} {vs : List Value}
    (hle : off + xs.length ≤ cs.length) (hl : xs.length = vs.length) (hV : ∀ (j : Nat) (c : PV), xs[j]? = some c → V g w (lim base bd S.length id) c (vs.getD j undef)) (hone : ∀ v ∈ vs, v.oneCell' = true) (n : Nat) :
    R (S.set id (.cells (cs.take off ++ xs ++ cs.drop (off + xs.length)))) (w.setCells (g.loc id) off vs) g base bd ∧ Evo n g w g (w.setCells (g.loc id) off vs) := by
  obtain ⟨l1, l2, l3, cur, t, l4, l5, l7, l6⟩ := h.live id _ hs
  obtain ⟨cur', s1, s2, s3, s4, s5, s6, s7, s8, s9⟩ := setCells_block (g.loc id) t (0, 0) vs off w cur l4 (by omega)
  have evo : ∀ m, Evo m g w g (w.setCells (g.loc id) off vs) := fun m =>
    Evo.write l4 s1 s2 s5 (fun i hi => by omega) l2 s6.symm s7 s8 s9
  refine ⟨⟨by simpa using h.hbase, h.hbd, fun k hk => by rw [s6]; exact h.hfix k hk, fun b hb => h.hpp b (by omega), ?_, ?_⟩, evo n⟩
  · intro k o hk
    rw [List.length_set]
    by_cases hki : k = id
    · subst hki
      have hlt := R.lt h hs
      rw [List.getElem?_set_self hlt] at hk
      injection hk with hk
      subst hk
      refine ⟨l1, l2, l3, cur', t, s1, by rw [s2, splice_len hle]; exact l5, fun z hz => ?_, fun i x hx => ?_⟩
      · obtain ⟨i, hi, rfl⟩ := Array.mem_iff_getElem.1 hz
        by_cases hin : off ≤ i ∧ i < off + vs.length
        · have := s4 (i - off) (vs[i - off]'(by omega)) (List.getElem?_eq_getElem (by omega))
          rw [show off + (i - off) = i by omega, Array.getElem?_eq_getElem hi] at this
          injection this with this
          rw [this]
          exact hone _ (List.getElem_mem _)
        · have := s3 i (by omega)
          rw [Array.getElem?_eq_getElem hi, Array.getElem?_eq_getElem (show i < cur.size by omega)] at this
          injection this with this
          rw [this]
          exact l7 _ (Array.getElem_mem _)
      · rw [splice_get hle] at hx
        rw [Array.getD_eq_getD_getElem?]
        split at hx
        · rw [s3 i (.inl (by omega)), ← Array.getD_eq_getD_getElem?]
          exact (l6 i x hx).evo (evo _)
        · split at hx
          · rename_i h1 h2
            have h3 : i - off < vs.length := by omega
            have := s4 (i - off) vs[i - off] (List.getElem?_eq_getElem h3)
            rw [show off + (i - off) = i by omega] at this
            rw [this]
            have := hV (i - off) x hx
            rw [List.getD_eq_getElem?_getD, List.getElem?_eq_getElem h3] at this
            exact this.evo (evo _)
          · rw [s3 i (.inr (by omega)), ← Array.getD_eq_getD_getElem?]
            exact (l6 i x hx).evo (evo _)
    · rw [List.getElem?_set_ne (Ne.symm hki)] at hk
      have hl' := h.live k o hk
      refine hl'.evo (evo _) rfl rfl rfl rfl (fun hd _ => ⟨s5 _ (fun e => hki ?_), rfl⟩)
      exact h.inj k id o _ hk hs hd (by simp) e
  · intro i k o p hi hk ho hp hloc
    have aux : ∀ (m : Nat) (q : SObj), (S.set id (.cells (cs.take off ++ xs ++ cs.drop (off + xs.length))))[m]? = some q → q ≠ .dead → ∃ q', S[m]? = some q' ∧ q' ≠ .dead := by
      intro m q hm hq
      by_cases hmi : m = id
      · subst hmi; exact ⟨_, hs, by simp⟩
      · rw [List.getElem?_set_ne (Ne.symm hmi)] at hm
        exact ⟨q, hm, hq⟩
    obtain ⟨o', h1, h2⟩ := aux i o hi ho
    obtain ⟨p', h3, h4⟩ := aux k p hk hp
    exact h.inj i k o' p' h1 h3 h2 h4 hloc

theorem R.write {S : List SObj} {w : World} {g : G} {base : Nat} {bd : Nat → Nat} (h : R S w g base bd) {id : Nat} {o o' : SObj} (hs : S[id]? = some o) (ho : o ≠ .dead) {off : Nat} {vs : List Value} {cur : Array Value} {t : TypeId} {fr : Nat × Nat}
    (l4 : w.heap[g.loc id]? = some (.cells cur t fr)) (l2 : ¬ g.fix (g.loc id)) (l3 : g.pp (g.loc id) = 0) (hle : off + vs.length ≤ cur.size)
    (hl : Evo (lim base bd S.length id) g w g (w.setCells (g.loc id) off vs) → Live (w.setCells (g.loc id) off vs) g (lim base bd S.length id) id o') (n : Nat) :
    R (S.set id o') (w.setCells (g.loc id) off vs) g base bd ∧ Evo n g w g (w.setCells (g.loc id) off vs) := by
  obtain ⟨cur', s1, s2, s3, s4, s5, s6, s7, s8, s9⟩ := setCells_block (g.loc id) t fr vs off w cur l4 (by omega)
  have evo : ∀ m, Evo m g w g (w.setCells (g.loc id) off vs) := fun m =>
    Evo.write l4 s1 s2 s5 (fun i hi => by omega) l2 s6.symm s7 s8 s9
  refine ⟨⟨by simpa using h.hbase, h.hbd, fun k hk => by rw [s6]; exact h.hfix k hk, fun b hb => h.hpp b (by omega), ?_, ?_⟩, evo n⟩
  · intro k q hk
    rw [List.length_set]
    by_cases hki : k = id
    · subst hki
      have hlt := R.lt h hs
      rw [List.getElem?_set_self hlt] at hk
      injection hk with hk
      subst hk
      exact hl (evo _)
    · rw [List.getElem?_set_ne (Ne.symm hki)] at hk
      have hl' := h.live k q hk
      refine hl'.evo (evo _) rfl rfl rfl rfl (fun hd _ => ⟨s5 _ (fun e => hki ?_), rfl⟩)
      exact h.inj k id q _ hk hs hd ho e
  · intro i k q p hi hk hq hp hloc
    have aux : ∀ (m : Nat) (q : SObj), (S.set id o')[m]? = some q → q ≠ .dead → ∃ q', S[m]? = some q' ∧ q' ≠ .dead := by
      intro m q hm hq
      by_cases hmi : m = id
      · subst hmi; exact ⟨_, hs, ho⟩
      · rw [List.getElem?_set_ne (Ne.symm hmi)] at hm
        exact ⟨q, hm, hq⟩
    obtain ⟨o1, h1, h2⟩ := aux i q hi hq
    obtain ⟨p', h3, h4⟩ := aux k p hk hp
    exact h.inj i k o1 p' h1 h3 h2 h4 hloc

theorem putCells_len {y z : PV} {j : Nat} {vs : List PV} (h : putCells y j vs = some z) (hle : j + vs.length ≤ y.cells.length) : z.cells.length = y.cells.length ∧
    ∀ (k : Nat) (c : PV), z.cells[k]? = some c → (k < j ∧ y.cells[k]? = some c) ∨ (j ≤ k ∧ k < j + vs.length ∧ vs[k - j]? = some c) ∨ (j + vs.length ≤ k ∧ y.cells[k]? = some c) := by
  unfold putCells at h
  split at h
  · rename_i cs _
    injection h with h; subst h
    simp only [PV.cells] at hle ⊢
    refine ⟨splice_len hle, fun k c hk => ?_⟩
    rw [splice_get hle] at hk
    split at hk
    · rename_i h1; exact .inl ⟨h1, hk⟩
    · split at hk
      · rename_i h1 h2; exact .inr (.inl ⟨by omega, h2, hk⟩)
      · rename_i h1 h2; exact .inr (.inr ⟨by omega, hk⟩)
  · rename_i y' v hna
    split at h
    case isFalse => cases h
    rename_i hone
    injection h with h; subst h
    have hz : v.cells = [v] := by cases v <;> first | rfl | simp [PV.isOne] at hone
    have hy : y.cells.length = 1 := by
      cases y with
      | agg cs => exact absurd rfl (hna cs)
      | _ => rfl
    have hj : j = 0 := by simp only [List.length_singleton] at hle; omega
    subst hj
    refine ⟨by rw [hz, hy]; rfl, fun k c hk => .inr (.inl ⟨Nat.zero_le _, ?_, ?_⟩)⟩
    · have := (List.getElem?_eq_some_iff.1 hk).1; rw [hz] at this; simpa using this
    · rw [hz] at hk; simpa using hk
  · cases h

theorem Live.put {w w' : World} {g : G} {m id : Nat} {xs : List PV} {sz : Nat} {i j : Nat} {y z : PV} {vs : List PV} {us : List Value} (h : Live w g m id (.row xs sz false)) (hi : xs[i]? = some y) (hz : putCells y j vs = some z) (hj : j + vs.length ≤ sz)
    (hw : w' = w.setCells (g.loc id) (i * sz + j) us) (hl : vs.length = us.length) (hV : ∀ (k : Nat) (c : PV), vs[k]? = some c → V g w m c (us.getD k undef)) (hone : ∀ u ∈ us, u.oneCell' = true)
    (evo : Evo m g w g w') : Live w' g m id (.row (xs.set i z) sz false) := by
  obtain ⟨l1, l2, l3, cur, t, fr, l4, l5, l6, l7, l8, l9, l10⟩ := h
  have hil : i < xs.length := (List.getElem?_eq_some_iff.1 hi).1
  have hy := l9 _ _ hi
  obtain ⟨p1, p2⟩ := putCells_len hz (by omega)
  have hfit : i * sz + sz ≤ cur.size := by
    rw [l6]
    have : (i + 1) * sz ≤ g.hw id * sz := Nat.mul_le_mul_right _ (by omega)
    rw [Nat.add_mul] at this; omega
  obtain ⟨cur', s1, s2, s3, s4, s5, s6, s7, s8, s9⟩ := setCells_block (g.loc id) t fr us (i * sz + j) w cur l4 (by omega)
  rw [← hw] at s1
  refine ⟨l1, l2, by simpa using l3, cur', t, fr, s1, by simpa using l5, by rw [s2]; exact l6, fun v hv => ?_, fun k hk => l8 k (by omega), fun k x hk => ?_, fun k x q c hk hq => ?_⟩
  · obtain ⟨k, hk, rfl⟩ := Array.mem_iff_getElem.1 hv
    by_cases hin : i * sz + j ≤ k ∧ k < i * sz + j + us.length
    · have := s4 (k - (i * sz + j)) (us[k - (i * sz + j)]'(by omega)) (List.getElem?_eq_getElem (by omega))
      rw [show i * sz + j + (k - (i * sz + j)) = k by omega, Array.getElem?_eq_getElem hk] at this
      injection this with this
      rw [this]
      exact hone _ (List.getElem_mem _)
    · have := s3 k (by omega)
      rw [Array.getElem?_eq_getElem hk, Array.getElem?_eq_getElem (show k < cur.size by omega)] at this
      injection this with this
      rw [this]
      exact l7 _ (Array.getElem_mem _)
  · by_cases hki : k = i
    · subst hki
      rw [List.getElem?_set_self hil] at hk
      injection hk with hk; subst hk
      omega
    · rw [List.getElem?_set_ne (Ne.symm hki)] at hk
      exact l9 k x hk
  · have hkl : k < xs.length := by have := (List.getElem?_eq_some_iff.1 hk).1; simpa using this
    rw [Array.getD_eq_getD_getElem?]
    by_cases hki : k = i
    · subst hki
      rw [List.getElem?_set_self hil] at hk
      injection hk with hk; subst hk
      rcases p2 q c hq with ⟨q1, q2⟩ | ⟨q1, q2, q3⟩ | ⟨q1, q2⟩
      · rw [s3 _ (.inl (by omega)), ← Array.getD_eq_getD_getElem?]
        exact (l10 _ _ q c hi q2).evo evo
      · have h3 : q - j < us.length := by omega
        have := s4 (q - j) us[q - j] (List.getElem?_eq_getElem h3)
        rw [show k * sz + j + (q - j) = k * sz + q by omega] at this
        rw [this]
        have := hV (q - j) c q3
        rw [List.getD_eq_getElem?_getD, List.getElem?_eq_getElem h3] at this
        exact this.evo evo
      · rw [s3 _ (.inr (by omega)), ← Array.getD_eq_getD_getElem?]
        exact (l10 _ _ q c hi q2).evo evo
    · rw [List.getElem?_set_ne (Ne.symm hki)] at hk
      have hq' : q < sz := by rw [← l9 k x hk]; exact (List.getElem?_eq_some_iff.1 hq).1
      have hout : k * sz + q < i * sz + j ∨ i * sz + j + us.length ≤ k * sz + q := by
        rcases Nat.lt_or_gt_of_ne hki with h | h
        · have : (k + 1) * sz ≤ i * sz := Nat.mul_le_mul_right _ h
          rw [Nat.add_mul] at this; omega
        · have : (i + 1) * sz ≤ k * sz := Nat.mul_le_mul_right _ h
          rw [Nat.add_mul] at this; omega
      rw [s3 _ hout, ← Array.getD_eq_getD_getElem?]
      exact (l10 k x q c hk hq).evo evo

theorem cleanL_mem : ∀ {xs : List PV} {i : Nat} {c : PV}, cleanL xs = true → xs[i]? = some c → c.clean = true
  | x :: xs, 0, c, h, hi => by
    simp at hi; subst hi
    simp [cleanL] at h; exact h.1
  | x :: xs, i + 1, c, h, hi => by
    simp [cleanL] at h
    exact cleanL_mem h.2 (by simpa using hi)
  | [], i, c, _, hi => by simp at hi

theorem clean_cells {x : PV} {j : Nat} {c : PV} (h : x.clean = true) (hj : x.cells[j]? = some c) : c.clean = true := by
  cases x with
  | agg cs => exact cleanL_mem (xs := cs) (by simpa [PV.clean] using h) hj
  | _ =>
    simp only [PV.cells] at hj
    cases j with
    | zero => simp at hj; subst hj; exact h
    | succ j => simp at hj

theorem clean_strip1 {x : PV} (h : x.clean = true) : x.strip1.clean = true := by
  unfold PV.strip1
  split
  · simp only [PV.clean, Bool.and_eq_true] at h ⊢; exact ⟨trivial, h.2⟩
  · exact h

theorem cleanL_strip1 : ∀ {cs : List PV}, cleanL cs = true → cleanL (cs.map PV.strip1) = true
  | [], _ => rfl
  | c :: cs, h => by
    simp only [cleanL, Bool.and_eq_true, List.map_cons] at h ⊢
    exact ⟨clean_strip1 h.1, cleanL_strip1 h.2⟩

theorem clean_strip2 {x : PV} (h : x.clean = true) : x.strip2.clean = true := by
  unfold PV.strip2
  split
  · exact clean_strip1 h
  · simp only [PV.clean] at h ⊢; exact cleanL_strip1 h
  · simp only [PV.clean] at h ⊢; exact clean_strip1 h
  · exact h

theorem cleanL_strip2 : ∀ {cs : List PV}, cleanL cs = true → cleanL (cs.map PV.strip2) = true
  | [], _ => rfl
  | c :: cs, h => by
    simp only [cleanL, Bool.and_eq_true, List.map_cons] at h ⊢
    exact ⟨clean_strip2 h.1, cleanL_strip2 h.2⟩

theorem clean_strip {x : PV} (h : x.clean = true) : x.strip.clean = true := by
  unfold PV.strip
  split
  · exact clean_strip1 h
  · simp only [PV.clean] at h ⊢; exact cleanL_strip1 h
  · simp only [PV.clean] at h ⊢; exact clean_strip2 h
  · simp only [PV.clean] at h ⊢; exact cleanL_strip2 h
  · exact h

theorem V.clean {g : G} {w : World} {n : Nat} {x : PV} {v : Value} (h : V g w n x v) : x.clean = true → V g w 0 x v := by
  induction h with
  | poison v => exact fun _ => .poison v
  | bool b => exact fun _ => .bool b
  | int k i => exact fun _ => .int k i
  | str s => exact fun _ => .str s
  | nilp => exact fun _ => .nilp
  | ptr => intro hc; simp [PV.clean] at hc
  | iptr cells off b o u h1 h2 _ h4 ih =>
    intro hc
    exact .iptr cells off b o u h1 h2 (fun j c hj => ih j c hj (cleanL_mem (by simpa [PV.clean] using hc) hj)) h4
  | nils => exact fun _ => .nils
  | lst xs tag b o cap sz u hcap h1 h2 h3 _ h5 ht ih =>
    intro hc
    simp only [PV.clean, Bool.and_eq_true] at hc
    refine .lst xs tag b o cap sz u hcap h1 h2 h3 (fun i x j c hi hj => ih i x j c hi hj (clean_cells (cleanL_mem hc.2 hi) hj)) h5 ?_
    cases tag with
    | none => trivial
    | full => exact ht
    | tip id => simp at hc
  | lst0 a => exact fun _ => .lst0 a
  | hsl => intro hc; simp [PV.clean] at hc
  | emp a => exact fun _ => .emp a
  | rsl => intro hc; simp [PV.clean] at hc
  | nilm => exact fun _ => .nilm
  | map => intro hc; simp [PV.clean] at hc
  | nilf => exact fun _ => .nilf
  | fn f as bs as' bs' ha hb _ _ ih1 ih2 =>
    intro hc
    simp only [PV.clean, Bool.and_eq_true] at hc
    exact .fn f as bs as' bs' ha hb (fun i c hi => ih1 i c hi (cleanL_mem hc.1 hi)) (fun i c hi => ih2 i c hi (cleanL_mem hc.2 hi))
  | nili => exact fun _ => .nili
  | ifc t v v' _ ih => exact fun hc => .ifc t v v' (ih (by simpa [PV.clean] using hc))
  | agg cs cs' hl _ h2 ih => exact fun hc => .agg cs cs' hl (fun i c hi => ih i c hi (cleanL_mem (by simpa [PV.clean] using hc) hi)) h2
  | tup cs cs' hl _ ih => exact fun hc => .tup cs cs' hl (fun i c hi => ih i c hi (cleanL_mem (by simpa [PV.clean] using hc) hi))

section
variable {P : Program} {ctx : Ctx} {S : List SObj} {g : G} {w : World} {base base' : Nat} {bd : Nat → Nat} {σ : Nat → PV} {a : Act}

theorem step_store (hc : CtxTy P ctx) (hR : R S w g base bd) (hs : Slots g w S.length σ a.tmps) (hb : base = 0 ∨ base = base') {t : TypeId} {p y : Operand} {S' : List SObj} {e : Bool} (h : storePV ctx base' t (opd σ p) (opd σ y) S = some (S', e)) :
    ∃ w', (Instr.storeAt t (a.eval p) (a.eval y)).run P w = .ok () w' ∧ Good base bd S g w (.tup []) S' e undef w' := by
  have hp := opd_sound hs p
  have hy := opd_sound hs y
  unfold storePV at h
  split at h
  case h_2 => cases h
  rename_i id off hop
  rw [hop] at hp
  obtain ⟨hv, hid, _⟩ := hp.inv_ptr
  split at h
  case h_3 => cases h
  case h_2 =>
    rename_i xs sz ti hcs hti
    split at h
    · cases h
    rename_i hn
    simp only [not_or, Bool.not_eq_false, Decidable.not_not, Nat.not_lt] at hn
    obtain ⟨n1, n2, n3⟩ := hn
    cases hx : xs[off / sz]? with
    | none => rw [hx] at h; cases h
    | some y0 =>
    rw [hx] at h
    cases hz : putCells y0 (off % sz) (opd σ y).strip.cells with
    | none => simp [hz] at h
    | some z =>
    simp only [Option.bind_some, hz, Option.map_some, Option.some.injEq, Prod.mk.injEq] at h
    obtain ⟨hS, he⟩ := h
    have ht := hc.ty _ _ hti
    obtain ⟨y1, y2, y3⟩ := hy.strip.storable (strip_storable n1)
    rw [strip_cells_len] at y1
    have n2' : (opd σ y).strip.cells.length = ti.size := by rw [strip_cells_len]; exact n2
    have hlive := hR.live id _ hcs
    obtain ⟨l1, l2, l3, cur, t', fr, l4, l5, l6, l7, l8, l9, l10⟩ := hlive
    have hi : off / sz < xs.length := (List.getElem?_eq_some_iff.1 hx).1
    have hdm : off / sz * sz + off % sz = off := by rw [Nat.mul_comm]; exact Nat.div_add_mod off sz
    have hfit : off / sz * sz + sz ≤ cur.size := by
      rw [l6]
      have : (off / sz + 1) * sz ≤ g.hw id * sz := Nat.mul_le_mul_right _ (by omega)
      rw [Nat.add_mul] at this; omega
    have hlen : (a.eval y).cells.toList.length = (opd σ y).cells.length := by simpa using y1
    have hrun : (Instr.storeAt t (a.eval p) (a.eval y)).run P w = .ok () (w.setCells (g.loc id) off (a.eval y).cells.toList) := by
      rw [hv]
      simp only [Instr.storeAt, Instr.sureAddr, storeVar, Sem.run_bind, Sem.run_pure, Result.andThen_ok, ht.run_size]
      rw [if_neg (by omega)]
      refine (run_storeCells_cells (g.loc id) off _ 0 w (fun j hj => ?_) (fun j hj => ?_) (fun v hv => y3 v (by simpa using hv)))
      · have : off + 0 + j < cur.size := by omega
        simp [World.cell?, l4]; omega
      · have : off + 0 + j < cur.size := by omega
        have := l8 _ this
        simp only [World.frozen?, l4]
        simpa using this
    refine ⟨_, hrun, ?_⟩
    subst hS
    have key : ∀ (base'' : Nat) (hR'' : R S w g base'' bd), (∀ (j : Nat) (c : PV), (opd σ y).strip.cells[j]? = some c → V g w (lim base'' bd S.length id) c ((a.eval y).cells.toList.getD j undef)) →
        R (S.set id (.row (xs.set (off / sz) z) sz false)) (w.setCells (g.loc id) off (a.eval y).cells.toList) g base'' bd ∧
        Evo S.length g w g (w.setCells (g.loc id) off (a.eval y).cells.toList) := by
      intro base'' hR'' hV
      refine R.write hR'' hcs (by simp) l4 l2 (by simpa using l3) (by omega) (fun evo => ?_) S.length
      exact (hR''.live id _ hcs).put (vs := (opd σ y).strip.cells) hx hz (by omega) (by rw [hdm]) (by rw [strip_cells_len]; exact hlen.symm) hV (fun v hv => y3 v (by simpa using hv)) evo
    have hVs : ∀ (j : Nat) (c : PV), (opd σ y).strip.cells[j]? = some c → V g w S.length c ((a.eval y).cells.toList.getD j undef) := fun j c hj => by rw [getD_toList]; exact y2 j c hj
    cases e with
    | true =>
      obtain ⟨k1, k2⟩ := key 0 hR.weaken (fun j c hj => by simpa [lim] using hVs j c hj)
      exact ⟨g, .tup [] _ rfl (fun i c hi => by simp at hi), by simpa using k1, k2, by simp⟩
    | false =>
      obtain ⟨k1, k2⟩ := key base hR (fun j c hj => by
        unfold lim
        split
        · rename_i hlt
          have hcl : (opd σ y).clean = true := by
            rcases hb with hb | hb
            · omega
            · subst hb
              simpa [hlt] using he
          exact ((hVs j c hj).clean (clean_cells (clean_strip hcl) hj)).mono (Nat.zero_le _)
        · exact hVs j c hj)
      exact ⟨g, .tup [] _ rfl (fun i c hi => by simp at hi), by simpa using k1, k2, by simp⟩
  rename_i cs ti hcs hti
  split at h
  · cases h
  rename_i hn
  simp only [not_or, Bool.not_eq_false, Decidable.not_not, Nat.not_lt] at hn
  obtain ⟨n1, n2, n3⟩ := hn
  injection h with h
  injection h with hS he
  have ht := hc.ty _ _ hti
  obtain ⟨y1, y2, y3⟩ := hy.storable n1
  obtain ⟨l1, l2, l3, cur, t', l4, l5, l7, l6⟩ := hR.live id _ hcs
  have hlen : (a.eval y).cells.toList.length = (opd σ y).cells.length := by simpa using y1
  have hrun : (Instr.storeAt t (a.eval p) (a.eval y)).run P w = .ok () (w.setCells (g.loc id) off (a.eval y).cells.toList) := by
    rw [hv]
    simp only [Instr.storeAt, Instr.sureAddr, storeVar, Sem.run_bind, Sem.run_pure, Result.andThen_ok, ht.run_size]
    rw [if_neg (by omega)]
    refine (run_storeCells_cells (g.loc id) off _ 0 w (fun j hj => ?_) (fun j hj => ?_) (fun v hv => y3 v (by simpa using hv)))
    · have : off + 0 + j < cur.size := by omega
      simp [World.cell?, l4]; omega
    · simp [World.frozen?, l4]
  refine ⟨_, hrun, ?_⟩
  subst hS
  have key : ∀ (base'' : Nat) (hR'' : R S w g base'' bd), (∀ (j : Nat) (c : PV), (opd σ y).cells[j]? = some c → V g w (lim base'' bd S.length id) c ((a.eval y).cells.toList.getD j undef)) →
      R (S.set id (.cells (cs.take off ++ (opd σ y).cells ++ cs.drop (off + ti.size)))) (w.setCells (g.loc id) off (a.eval y).cells.toList) g base'' bd ∧
      Evo S.length g w g (w.setCells (g.loc id) off (a.eval y).cells.toList) := by
    intro base'' hR'' hV
    have := R.setRow hR'' hcs (off := off) (xs := (opd σ y).cells) (vs := (a.eval y).cells.toList) (by omega) hlen.symm hV (fun v hv => y3 v (by simpa using hv)) S.length
    rw [n2] at this
    exact this
  have hVs : ∀ (j : Nat) (c : PV), (opd σ y).cells[j]? = some c → V g w S.length c ((a.eval y).cells.toList.getD j undef) := fun j c hj => by rw [getD_toList]; exact y2 j c hj
  cases e with
  | true =>
    obtain ⟨k1, k2⟩ := key 0 hR.weaken (fun j c hj => by simpa [lim] using hVs j c hj)
    exact ⟨g, .tup [] _ rfl (fun i c hi => by simp at hi), by simpa using k1, k2, by simp⟩
  | false =>
    obtain ⟨k1, k2⟩ := key base hR (fun j c hj => by
      unfold lim
      split
      · rename_i hlt
        have hcl : (opd σ y).clean = true := by
          rcases hb with hb | hb
          · omega
          · subst hb
            simpa [hlt] using he
        exact ((hVs j c hj).clean (clean_cells hcl hj)).mono (Nat.zero_le _)
      · exact hVs j c hj)
    exact ⟨g, .tup [] _ rfl (fun i c hi => by simp at hi), by simpa using k1, k2, by simp⟩

theorem new_cells (hR : R S w g base bd) {cs : List PV} {vals : Array Value} (t : TypeId) (hl : vals.size = cs.length) (hV : ∀ (j : Nat) (c : PV), cs[j]? = some c → V g w S.length c (vals.getD j undef))
    (hone : ∀ v ∈ vals, v.oneCell' = true) :
    Good base bd S g w (.ptr S.length 0) (S ++ [.cells cs]) false (.pointer (some ⟨w.heap.size, 0, none⟩)) (w.alloc (.cells vals t)) := by
  have hpp := hR.hpp w.heap.size (Nat.le_refl _)
  have hgB := hR.hfix
  have evo : Evo S.length g w (g.new S.length w.heap.size 0 0 0 true) (w.alloc (.cells vals t)) := Evo.newBlock _ (Nat.le_refl _) hpp hgB
  refine ⟨g.new S.length w.heap.size 0 0 0 true, ?_, ?_, evo, by simp⟩
  · have := V.ptr (g := g.new S.length w.heap.size 0 0 0 true) (w := w.alloc (.cells vals t)) (n := (S ++ [SObj.cells cs]).length) S.length 0 (by simp) (by simp [G.new])
    simpa [G.new] using this
  · simp only [Bool.false_eq_true, if_false]
    refine hR.newBlock _ _ ⟨by simp [G.new], ?_, by simp [G.new], vals, t, ?_, hl, hone, fun j c hj => ((hV j c hj).evo evo).mono (by omega)⟩
    · intro hk
      have hk' : g.fix w.heap.size := by simpa [G.new] using hk
      have := hR.hfix _ hk'
      omega
    · have := alloc_new w (.cells vals t)
      simpa only [G.new, if_true] using this

theorem step_alloc (hc : CtxTy P ctx) (hR : R S w g base bd) {t : TypeId} {ti : TyI} (hti : ctx.ty t = some ti) (hst : ti.zero.storable = true) :
    ∃ v w', (Instr.alloc t true (.tuple #[])).run P w = .ok v w' ∧ Good base bd S g w (.ptr S.length 0) (S ++ [.cells ti.zero.cells]) false v w' := by
  have ht := hc.ty _ _ hti
  obtain ⟨z, hz, hz2, hz3⟩ := ht.run_zero w
  obtain ⟨y1, y2, y3⟩ := (absV_sound g w S.length hz2).storable hst
  refine ⟨_, _, ?_, new_cells hR t y1 y2 y3⟩
  simp [Instr.alloc, hz, newVar, newRow]

theorem step_box (hR : R S w g base bd) (hs : Slots g w S.length σ a.tmps) {t : TypeId} {x : Operand} (hst : (opd σ x).storable = true) :
    ∃ v w', (Instr.box t (a.eval x)).run P w = .ok v w' ∧ Good base bd S g w (.ptr S.length 0) (S ++ [.cells (opd σ x).cells]) false v w' := by
  obtain ⟨y1, y2, y3⟩ := (opd_sound hs x).storable hst
  refine ⟨_, _, ?_, new_cells hR t y1 y2 y3⟩
  simp [Instr.box, newVar, newRow]

theorem step_fieldAddr (hs : Slots g w S.length σ a.tmps) (hc : CtxTy P ctx) {t : TypeId} {x : Operand} {i : Nat} {y : PV} (h : fieldAddrPV ctx t (opd σ x) i = some y) :
    ∃ v, (Instr.fieldAt t (a.eval x) i).run P w = .ok v w ∧ V g w S.length y v := by
  have hx := opd_sound hs x
  unfold fieldAddrPV fieldsOf at h
  split at h
  · cases h
  rename_i fs hfs
  split at hfs
  case h_2 => cases hfs
  rename_i ti hti
  split at hfs
  case h_2 => cases hfs
  rename_i fs' hund
  injection hfs with hfs; subst hfs
  split at h
  · cases h
  rename_i f hf
  split at h
  · cases h
  rename_i fi hfi
  split at h
  · cases h
  rename_i hne
  have ht := hc.ty _ _ hti
  have htf := hc.ty _ _ hfi
  have hadd : ∀ b o, (⟨b, o, none⟩ : Addr).add f.offset = ⟨b, o + f.offset, none⟩ := by
    intro b o; unfold Addr.add; split
    · rename_i h0; simp [h0]
    · rfl
  split at h
  · rename_i id off hop
    injection h with h; subst h
    rw [hop] at hx
    obtain ⟨hv, h1, h2⟩ := hx.inv_ptr
    refine ⟨.pointer (some ⟨g.loc id, off + f.offset, none⟩), ?_, .ptr id _ h1 h2⟩
    rw [hv]
    simp [Instr.fieldAt, ht.run_und, hund, hf, Instr.sureAddr, fieldPlace, htf.run_size, hne, hadd]
  · rename_i cs off hop
    injection h with h; subst h
    rw [hop] at hx
    obtain ⟨b, o, u, hv, h1, h2, h3, h4⟩ := hx.inv_iptr
    refine ⟨.pointer (some ⟨b, o + (off + f.offset), none⟩), ?_, .iptr cs _ b o u h1 h2 h3 h4⟩
    rw [hv]
    simp [Instr.fieldAt, ht.run_und, hund, hf, Instr.sureAddr, fieldPlace, htf.run_size, hne, hadd, Nat.add_assoc]
  · cases h

theorem step_field (hs : Slots g w S.length σ a.tmps) (hc : CtxTy P ctx) {t : TypeId} {x : Operand} {i : Nat} {y : PV} {fs : Array Field} {cs : List PV} {f : Field} (hfs : fieldsOf ctx t = some fs) (hop : opd σ x = .agg cs) (hf : fs[i]? = some f)
    (h : partOf ctx f.type cs f.offset = some y) :
    ∃ v, (Instr.field t (a.eval x) i).run P w = .ok v w ∧ V g w S.length y v := by
  have hx := opd_sound hs x
  unfold fieldsOf at hfs
  split at hfs
  case h_2 => cases hfs
  rename_i ti hti
  split at hfs
  case h_2 => cases hfs
  rename_i fs' hund
  injection hfs with hfs; subst hfs
  have ht := hc.ty _ _ hti
  rw [hop] at hx
  obtain ⟨cs', hv, h1, h2, h3⟩ := hx.inv_agg
  obtain ⟨v, hr, hV⟩ := part_sound (P := P) hc h1 h2 h3 h
  refine ⟨v, ?_, hV⟩
  rw [hv]
  simp [Instr.field, ht.run_und, hund, hf, asAgg, hr]

theorem step_bound {x : Option PV} {x' : Option Value} (hx : ∀ y, x = some y → ∃ v, x' = some v ∧ V g w S.length y v) (hn : x = none → x' = none) {d : Nat} {i : Int} (h : boundOf x d = some i) :
    (x' = none ∧ i = d) ∨ ∃ k, x' = some (.int k i) := by
  unfold boundOf at h
  split at h
  · injection h with h
    exact .inl ⟨hn rfl, h.symm⟩
  · rename_i k n
    injection h with h; subst h
    obtain ⟨v, h1, h2⟩ := hx _ rfl
    rw [h2.inv_int] at h1
    exact .inr ⟨k, h1⟩
  · cases h

end
end Go.Pam
