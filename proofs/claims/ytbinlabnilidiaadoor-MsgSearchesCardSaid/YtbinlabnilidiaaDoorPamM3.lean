/- The abstract machine and its soundness, part 3. -/
import Derived.Maps.AppendAt
import Derived.Lib.FrozenHead
import Derived.Lib.FrozenHead2
import Derived.Lib.UnsafeStr
import Derived.Test.YtbinlabnilidiaaDoorPamM1
import Derived.Test.YtbinlabnilidiaaDoorPamM2
namespace Go.Pam
set_option linter.unusedVariables false
set_option linter.unusedSimpArgs false
variable {env : Env} {fr : Fr} {σ : Nat → PV} {S : List SObj} {S0 : List SObj} {R : List Nat} {C : List (Nat × SObj)} {A : List (PV × Nat)} {W : List (PV × SObj)}
variable {α : Type} {f : α → PV} {sz : Nat} {fz : Bool} {x : Sl α} {v : PV}

def rowO {α : Type} (f : α → PV) (sz : Nat) (fz : Bool) (x : Sl α) : SObj := .row (x.l.map f) sz fz

def IsW {α : Type} (x : Sl α) (v : PV) : Prop := match x with
  | none => v = .nils
  | some l => (v = .emp ∧ l = []) ∨ ∃ id, v = .rsl id l.length

theorem IsW.upd {x y : Sl α} (h : IsW x v) (hn : x.isNil = y.isNil) (hl : x.l.length = y.l.length) : IsW y v := by
  cases x with
  | none => cases y with
    | none => exact h
    | some l => cases hn
  | some l => cases y with
    | none => cases hn
    | some m =>
      simp only [Sl.l, Option.getD_some] at hl
      rcases h with ⟨h1, rfl⟩ | ⟨id, h1⟩
      · exact .inl ⟨h1, List.length_eq_zero_iff.1 hl.symm⟩
      · exact .inr ⟨id, by rw [← hl]; exact h1⟩

theorem IsW.at {i : Int} {y : α} (h : IsW x v) (hy : Sl.at? x i = some y) : ∃ id, v = .rsl id x.l.length ∧ 0 ≤ i ∧ i < x.l.length ∧ x.l[i.toNat]? = some y := by
  unfold Sl.at? at hy
  split at hy
  case isFalse => cases hy
  rename_i h0
  have hlt : i.toNat < x.l.length := (List.getElem?_eq_some_iff.1 hy).1
  cases x with
  | none => simp [Sl.l] at hy
  | some l => rcases h with ⟨_, rfl⟩ | ⟨id, rfl⟩
              · simp [Sl.l] at hy
              · exact ⟨id, rfl, h0, by omega, hy⟩

theorem stp_idxW {a i : Operand} {t e : TypeId} {k : IntKind} {n : Int} {y : α} {id : Nat} (ho : opd σ a = v) (h : IsW x v) (hi : opd σ i = .int k n)
    (ht : (env.ctx.ty t).map (·.und) = some (.slice e)) (he : (env.ctx.ty e).map (·.size) = some sz) (hy : Sl.at? x n = some y) (hid : rowAt v = some id) :
    stp env fr σ S (.indexAddr t a i) = some (.ptr id (n.toNat * sz), S, false) := by
  obtain ⟨id', rfl, h0, h1, _⟩ := h.at hy
  injection hid with hid; subst hid
  cases hti : env.ctx.ty t with
  | none => rw [hti] at ht; cases ht
  | some ti =>
    rw [hti] at ht
    have hu : ti.und = .slice e := by simpa using ht
    cases hei : env.ctx.ty e with
    | none => rw [hei] at he; cases he
    | some ei =>
      rw [hei] at he
      have hs : ei.size = sz := by simpa using he
      simp only [stp, evStep, hi, ho, indexAddrPV, hti, hu, hei]
      rw [if_pos ⟨h0, h1⟩, hs]
      rfl

theorem row_at {i : Int} {y : α} (h : Sl.at? x i = some y) {n : Nat} (hn : n = (Int.toNat i)) : (x.l.map f)[n]? = some (f y) := by
  subst hn
  unfold Sl.at? at h
  split at h
  · rw [List.getElem?_map, h]; rfl
  · cases h

theorem divmod {i off sz : Nat} (h : off < sz) : (i * sz + off) / sz = i ∧ (i * sz + off) % sz = off := by
  have hs : 0 < sz := by omega
  constructor
  · rw [Nat.mul_comm, Nat.mul_add_div hs, Nat.div_eq_of_lt h]; rfl
  · rw [Nat.mul_comm, Nat.mul_add_mod, Nat.mod_eq_of_lt h]

def Sl.set (x : Sl α) (i : Int) (y : α) : Sl α := x.map fun l => l.set i.toNat y

theorem Sl.set_l (x : Sl α) (i : Int) (y : α) : (x.set i y).l = x.l.set i.toNat y := by cases x <;> rfl

theorem IsW.set (h : IsW x v) (i : Int) (y : α) : IsW (x.set i y) v := h.upd (by cases x <;> rfl) (by rw [Sl.set_l, List.length_set])

theorem rowO_set (i : Int) (y : α) : rowO f sz fz (x.set i y) = .row ((x.l.map f).set i.toNat (f y)) sz fz := by
  unfold rowO; rw [Sl.set_l, List.map_set]

theorem stp_storeW {t : TypeId} {a b : Operand} {id off ts : Nat} {n : Int} {y y' : α} {u : PV} {xc : List PV} {e : Bool} (ha : opd σ a = .ptr id (n.toNat * sz + off)) (hb : opd σ b = u) (hg : S[id]? = some (rowO f sz false x)) (hy : Sl.at? x n = some y)
    (ht : (env.ctx.ty t).map (·.size) = some ts) (hs : u.storable = true) (hc : u.strip.cells = xc) (hl : xc.length = ts) (hfit : off + ts ≤ sz) (hpos : off < sz) (hz : putCells (f y) off xc = some (f y')) (he : (decide (id < fr.base) && !u.clean) = e) :
    stp env fr σ S (.store t a b) = some (.tup [], S.set id (rowO f sz false (x.set n y')), e) := by
  cases hti : env.ctx.ty t with
  | none => rw [hti] at ht; cases ht
  | some ti =>
    rw [hti] at ht
    have hts : ti.size = ts := by simpa using ht
    subst hc hts
    obtain ⟨h1, h2⟩ := divmod (i := n.toNat) hpos
    have hlen : u.cells.length = ti.size := by rw [← strip_cells_len]; exact hl
    have hn : ¬ (u.storable = false ∨ u.cells.length ≠ ti.size ∨ off + ti.size > sz) := by
      rintro (h | h | h)
      · rw [hs] at h; cases h
      · exact h hlen
      · omega
    have hr := row_at (f := f) hy rfl
    simp only [rowO] at hg
    simp only [stp, evStep, ha, hb, storePV, hg, hti, h1, h2, if_neg hn, hr, Option.bind_some, hz, Option.map_some, he, rowO_set]

theorem WO.storeW (j : Nat) {t : TypeId} {a b : Operand} {d : Option Nat} {rest : List POp} {σ1 : Nat → PV} {S1 : List SObj} {id off ts : Nat} {n : Int} {y y' : α} {u : PV} {xc : List PV} {e e' : Bool} {K : KS} (hd : dstOk fr.ntmps d = true)
    (hz : frzT (frzArgs env.ctx σ (.store t a b)) σ S = (σ1, S1)) (H : Hp S0 R S1 C A W) (hj : W[j]? = some (v, rowO f sz false x)) (hid : rowAt v = some id)
    (ha : opd σ1 a = .ptr id (n.toNat * sz + off)) (hb : opd σ1 b = u) (hy : Sl.at? x n = some y)
    (ht : (env.ctx.ty t).map (·.size) = some ts) (hs : u.storable = true) (hc : u.strip.cells = xc) (hl : xc.length = ts) (hfit : off + ts ≤ sz) (hpos : off < sz) (hp : putCells (f y) off xc = some (f y')) (he : (decide (id < fr.base) && !u.clean) = e')
    (h : ∀ S', Hp S0 R S' C A (W.set j (v, rowO f sz false (x.set n y'))) → WO env fr rest (upd σ d (.tup [])) S' (e || e') K) : WO env fr (⟨d, .store t a b, none, false⟩ :: rest) σ S e K :=
  WO.step hd (yz hz (stp_storeW ha hb (H.getW j hj hid) hy ht hs hc hl hfit hpos hp he)) (h _ (H.setW j hj hid _ rfl))

/-! How they are made -/
def Sl.emp (x : Sl α) : Sl α := x.map fun _ => []

theorem born_app (H : Hp S0 R S C A W) (j : Nat) {y z : Sl α} {w : PV} {a b : Operand} {t u e : TypeId} {ei : TyI} (hj : W[j]? = some (v, rowO f ei.size false x))
    (ho : opd σ a = v) (hx : IsW x v) (hb : opd σ b = w) (hw : IsSl f y w)
    (ht : (env.ctx.ty t).map (·.und) = some (.slice e)) (hu : (env.ctx.ty u).map (·.und) = some (.slice e)) (he : env.ctx.ty e = some ei)
    (hok : (decide (ei.size ≠ 0) && decide (ei.bytes ≠ 0) && ei.zero.storable && decide (ei.zero.cells.length = ei.size)) = true)
    (hc : ∀ a, (f a).cells.length = ei.size) (hz : Sl.app? ei.bytes x y.l = some z) :
    ∃ v' S', birthPV env.ctx σ S (.call ⟨.builtin .append, #[a, b], #[t, u]⟩) = some (v', S') ∧ IsW z v' ∧ Hp S0 R S' C A (W.set j (v', rowO f ei.size false z)) := by
  simp only [Bool.and_eq_true, decide_eq_true_eq] at hok
  obtain ⟨⟨⟨k1, k2⟩, k3⟩, k4⟩ := hok
  cases hti : env.ctx.ty t with
  | none => rw [hti] at ht; cases ht
  | some ti =>
  rw [hti] at ht
  have ht' : ti.und = .slice e := by simpa using ht
  cases hui : env.ctx.ty u with
  | none => rw [hui] at hu; cases hu
  | some ui =>
  rw [hui] at hu
  have hu' : ui.und = .slice e := by simpa using hu
  unfold Sl.app? at hz
  split at hz
  case isFalse => cases hz
  rename_i hfit
  injection hz with hz
  have hlist : listOf w = some (y.l.map f) := by
    cases y with
    | none => cases hw; rfl
    | some l => obtain ⟨tag, rfl⟩ := hw; rfl
  have setself : ∀ (q : PV × SObj), W[j]? = some q → W.set j q = W := by
    intro q hq
    apply List.ext_getElem?
    intro i
    rw [List.getElem?_set]
    split
    · rename_i hi; subst hi; rw [hq]; split
      · rfl
      · have := (List.getElem?_eq_some_iff.1 hq).1; omega
    · rfl
  cases hemp : y.l.isEmpty with
  | true =>
    rw [hemp] at hz
    simp only [if_true] at hz
    subst hz
    have hnil : y.l = [] := by simpa using hemp
    refine ⟨v, S, ?_, hx, by rw [setself _ hj]; exact H⟩
    have happ : ∀ s, isSlice s = true → appendPV env.ctx #[t, u] s w S = some (s, S) := by
      intro s hs
      simp only [appendPV, List.getElem?_toArray, List.getElem?_cons_zero, List.getElem?_cons_succ, hti, hui, hlist, ht', hu', he]
      simp [hnil, hs]
    simp only [birthPV, List.map_cons, List.map_nil, ho, hb]
    cases x with
    | none => cases hx; simp only [hlist, hnil, List.map_nil]; exact happ _ rfl
    | some l => rcases hx with ⟨rfl, rfl⟩ | ⟨id, rfl⟩
                · simp only [hlist, hnil, List.map_nil]; exact happ _ rfl
                · exact happ _ rfl
  | false =>
    rw [hemp] at hz
    simp only [Bool.false_eq_true, if_false] at hz
    subst hz
    have hne : (y.l.map f).isEmpty = false := by simpa using hemp
    have hne' : y.l.map f ≠ [] := by simpa using hemp
    have hsz := sized_map hc y.l
    have cond : ¬ (sizedAll ei.size (y.l.map f) = false ∨ ei.size = 0 ∨ ei.bytes = 0 ∨ ei.zero.storable = false ∨ ei.zero.cells.length ≠ ei.size) := by
      rw [hsz]; simp [k1, k2, k3, k4]
    have happ : ∀ s, appendPV env.ctx #[t, u] s w S = growPV ei s (y.l.map f) S := by
      intro s
      simp only [appendPV, List.getElem?_toArray, List.getElem?_cons_zero, List.getElem?_cons_succ, hti, hui, hlist, ht', hu', he, hne, Bool.false_eq_true, if_false]
      rw [if_neg cond]
      rfl
    -- a new row
    have born : x.l = [] → rowAt v = none → birthPV.bornApp env.ctx #[t, u] w S = some (.rsl S.length y.l.length, S ++ [.row (y.l.map f) ei.size false]) ∧
        Hp S0 R (S ++ [.row (y.l.map f) ei.size false]) C A (W.set j (.rsl S.length y.l.length, rowO f ei.size false (some (x.l ++ y.l)))) := by
      intro hl hv
      have hfit' : (y.l.map f).length * ei.bytes ≤ 2 ^ 47 := by have h := hfit; rw [hl] at h; simpa using h
      have e0 : rowO f ei.size false (some (x.l ++ y.l)) = .row (y.l.map f) ei.size false := by
        show SObj.row ((x.l ++ y.l).map f) ei.size false = _
        rw [hl]; rfl
      rw [e0]
      refine ⟨?_, ?_⟩
      · unfold birthPV.bornApp
        rw [happ]
        simp only [growPV, hfit', if_true]
        simp
      · have h1 := H.more (.row (y.l.map f) ei.size false)
        have h2 := H.addW y.l.length (.row (y.l.map f) ei.size false) rfl
        refine { h1 with row := fun q hq id hid => ?_, rdis := pw_opt H.rdis (x := (PV.rsl S.length y.l.length, SObj.row (y.l.map f) ei.size false)) fun m hm k q _ hk he2 => ?_ }
        · rcases mem_set_of hq with rfl | ⟨k, hne, hk⟩
          · have := h2.row (.rsl S.length y.l.length, .row (y.l.map f) ei.size false) List.mem_cons_self id hid
            exact this
          · exact h1.row q (List.mem_of_getElem? hk) id hid
        · injection hm with hm; subst hm
          have := lt_of_get (H.row q (List.mem_of_getElem? hk) _ he2).2.1
          omega
    simp only [birthPV, List.map_cons, List.map_nil, ho, hb]
    cases x with
    | none =>
      cases hx
      obtain ⟨b1, b2⟩ := born rfl rfl
      refine ⟨_, _, ?_, .inr ⟨S.length, by simp [Sl.l]⟩, b2⟩
      simp only [hlist]
      split
      · rename_i h; injection h with h; exact absurd h hne'
      · exact b1
    | some l =>
      rcases hx with ⟨rfl, rfl⟩ | ⟨id, rfl⟩
      · obtain ⟨b1, b2⟩ := born rfl rfl
        refine ⟨_, _, ?_, .inr ⟨S.length, by simp [Sl.l]⟩, b2⟩
        simp only [hlist]
        split
        · rename_i h; injection h with h; exact absurd h hne'
        · exact b1
      · have hg := H.getW j hj (id := id) rfl
        have hfit : (l.length + y.l.length) * ei.bytes ≤ 2 ^ 47 := hfit
        refine ⟨.rsl S.length (l.length + y.l.length), S.set id .dead ++ [.row (l.map f ++ y.l.map f) ei.size false], ?_, .inr ⟨S.length, by simp [Sl.l]⟩, ?_⟩
        · simp only [happ, growPV, hg, rowO, Sl.l, Option.getD_some]
          rw [if_pos ⟨(List.length_map _).symm, trivial, by rw [List.length_map, List.length_map]; exact hfit⟩, List.length_map, List.length_map]
        · have := H.growW j hj (id := id) rfl (l.length + y.l.length) (.row (l.map f ++ y.l.map f) ei.size false) rfl
          have e0 : rowO f ei.size false (some (Sl.l (some l : Sl α) ++ y.l)) = .row (l.map f ++ y.l.map f) ei.size false := by
            show SObj.row ((l ++ y.l).map f) ei.size false = _
            rw [List.map_append]
          rw [e0]; exact this

/-! How they become lists -/
theorem IsW.frz (H : Hp S0 R S C A W) (j : Nat) (hj : W[j]? = some (v, rowO f sz fz x)) (hx : IsW x v) :
    ∃ S', frz1 v S = (encSl f x, S') ∧ Hp S0 R S' C A (W.set j (v, rowO f sz true x)) := by
  cases hr : rowAt v with
  | none =>
    have h1 : frz1 v S = (encSl f x, S) := by
      cases x with
      | none => cases hx; rfl
      | some l => rcases hx with ⟨rfl, rfl⟩ | ⟨id, rfl⟩
                  · rfl
                  · cases hr
    refine ⟨S, h1, ?_⟩
    refine { H with row := fun q hq id hid => ?_, rdis := pw_opt H.rdis (x := (v, rowO f sz true x)) fun m hm k q _ hk he2 => by rw [hr] at hm; cases hm }
    rcases mem_set_of hq with rfl | ⟨k, hne, hk⟩
    · rw [hr] at hid; cases hid
    · exact H.row q (List.mem_of_getElem? hk) id hid
  | some id =>
    have hg := H.getW j hj hr
    cases x with
    | none => cases hx; cases hr
    | some l => rcases hx with ⟨rfl, rfl⟩ | ⟨id', rfl⟩
                · cases hr
                · injection hr with hr; subst hr
                  refine ⟨S.set id' (rowO f sz true (some l)), ?_, H.setW j hj rfl _ rfl⟩
                  unfold frz1 frzQ
                  simp only [hg, rowO, Sl.l, Option.getD_some, List.length_map, if_true]
                  rfl

theorem IsW.id {i : Int} {y : α} (h : IsW x v) (hy : Sl.at? x i = some y) : ∃ id, rowAt v = some id := by
  obtain ⟨id, h1, _⟩ := h.at hy
  exact ⟨id, by rw [h1]; rfl⟩

theorem fz_tmp' {t : Nat} {xs : List Operand} {r : (Nat → PV) × List SObj} (h : frzQ (σ t) S = none) (hs : frzT xs σ S = r) : frzT (.tmp t :: xs) σ S = r := by
  simp only [frzT, h]; exact hs
theorem fz_oth' {y : Operand} {xs : List Operand} {r : (Nat → PV) × List SObj} (h : ∀ t, y ≠ .tmp t) (hs : frzT xs σ S = r) : frzT (y :: xs) σ S = r := by
  cases y with
  | tmp t => exact absurd rfl (h t)
  | const v => exact hs
  | global i => exact hs
  | func f => exact hs

theorem fl_W {u u' : PV} {S' S'' : List SObj} {vs vs' : List PV} (h : frz1 u S = (u', S')) (hs : frzL vs S' = (vs', S'')) : frzL (u :: vs) S = (u' :: vs', S'') := by
  simp only [frzL, h, hs]
theorem fl_cons' {u : PV} {S'' : List SObj} {vs vs' : List PV} (h : frzQ u S = none) (hs : frzL vs S = (vs', S'')) : frzL (u :: vs) S = (u :: vs', S'') := by
  have h1 : frz1 u S = (u, S) := by unfold frz1; rw [h]; rfl
  exact fl_W h1 hs

theorem IsSl.frz {u : PV} (h : IsSl f x u) : frzQ u S = none := by
  cases x with
  | none => cases h; rfl
  | some l => obtain ⟨tag, rfl⟩ := h; rfl

theorem IsSl.notRow {u : PV} (h : IsSl f x u) : notRow u = true := by
  cases x with
  | none => cases h; rfl
  | some l => obtain ⟨tag, rfl⟩ := h; rfl

/-! A function that hands on a row as such -/
theorem bzx {op : Op} {d : Option Nat} {g : Option (Nat × Bool)} {σ1 : Nat → PV} {S1 : List SObj} {P : PV → List SObj → Prop} (hz : frzT (frzArgs env.ctx σ op) σ S = (σ1, S1)) (hs : ∃ v' S', birthPV env.ctx σ1 S1 op = some (v', S') ∧ P v' S') (hc : callV op = none := by rfl) :
    ∃ v' S', stF env fr σ S ⟨d, op, g, true⟩ = some (v', S', false) ∧ P v' S' := by
  obtain ⟨v', S', h1, h2⟩ := hs
  exact ⟨v', S', bz hz h1 hc, h2⟩
theorem bzn {op : Op} {d : Option Nat} {g : Option (Nat × Bool)} {P : PV → List SObj → Prop} (hz : frzT (frzArgs env.ctx σ op) σ S = (σ, S)) (hs : ∃ v' S', birthPV env.ctx σ S op = some (v', S') ∧ P v' S') (hc : callV op = none := by rfl) :
    ∃ v' S', stF env fr σ S ⟨d, op, g, true⟩ = some (v', S', false) ∧ P v' S' := bzx hz hs hc
end Go.Pam
namespace Go.Pam
set_option linter.unusedVariables false
set_option linter.unusedSimpArgs false
variable {env : Env} {fr : Fr} {σ : Nat → PV} {S : List SObj} {S0 : List SObj} {R : List Nat} {C : List (Nat × SObj)} {A : List (PV × Nat)} {W : List (PV × SObj)}

theorem born_build {α : Type} {f : α → PV} {ys : List α} {t e : TypeId} {n : Nat} {ps : Array (Nat × Operand)} {ei : TyI} (hs : stp env fr σ S (.buildSlice t n ps) = some (.lst (ys.map f) .full, S, false))
    (ht : (env.ctx.ty t).map (·.und) = some (.slice e)) (he : env.ctx.ty e = some ei) (H : Hp S0 R S C A W) :
    ∃ v' S', birthPV env.ctx σ S (.buildSlice t n ps) = some (v', S') ∧ IsW (some ys) v' ∧ Hp S0 R S' C A ((v', rowO f ei.size false (some ys)) :: W) := by
  cases hti : env.ctx.ty t with
  | none => rw [hti] at ht; cases ht
  | some ti =>
  rw [hti] at ht
  have ht' : ti.und = .slice e := by simpa using ht
  have hb : buildSlicePV env.ctx t n (ps.toList.map fun p => (p.1, opd σ p.2)) = some (.lst (ys.map f) .full) := by
    simp only [stp, evStep] at hs
    cases hq : buildSlicePV env.ctx t n (ps.toList.map fun p => (p.1, opd σ p.2)) with
    | none => rw [hq] at hs; cases hs
    | some y => rw [hq] at hs; simp at hs; rw [hs]
  refine ⟨.rsl S.length ys.length, S ++ [.row (ys.map f) ei.size false], ?_, .inr ⟨S.length, rfl⟩, H.addW ys.length _ rfl⟩
  simp only [birthPV, hti, ht', he, hb, List.length_map]

/-! Arrays of their own -/
def IsArr {α : Type} (n : Nat) (x : Sl α) (v : PV) : Prop := (∃ id, v = .ptr id 0) ∧ x.l.length = n

variable {α : Type} {f : α → PV} {sz n : Nat} {x : Sl α} {v : PV}

theorem IsArr.id (h : IsArr n x v) : ∃ id, rowAt v = some id := by
  obtain ⟨⟨id, rfl⟩, _⟩ := h
  exact ⟨id, rfl⟩

theorem IsArr.frz (h : IsArr n x v) : frzQ v S = none := by
  obtain ⟨⟨id, rfl⟩, _⟩ := h
  rfl

theorem IsArr.set (h : IsArr n x v) (i : Int) (y : α) : IsArr n (x.set i y) v := ⟨h.1, by rw [Sl.set_l, List.length_set]; exact h.2⟩

end Go.Pam
namespace Go.Pam
set_option linter.unusedVariables false
set_option linter.unusedSimpArgs false
variable {env : Env} {fr : Fr} {σ : Nat → PV} {S : List SObj} {S0 : List SObj} {R : List Nat} {C : List (Nat × SObj)} {A : List (PV × Nat)} {W : List (PV × SObj)}
set_option linter.unusedSimpArgs false
set_option linter.unusedVariables false

/-! Whether something older has been told of something newer plays no part in what is done -/
end Go.Pam
namespace Go.Pam
set_option linter.unusedVariables false
set_option linter.unusedSimpArgs false
open Go.RowKit
set_option linter.unusedSimpArgs false
set_option linter.unusedVariables false

variable {S : List SObj} {w w' : World} {g : G} {base : Nat} {bd : Nat → Nat}

end Go.Pam
namespace Go.Pam
set_option linter.unusedVariables false
set_option linter.unusedSimpArgs false
open Go.RowKit
set_option linter.unusedSimpArgs false
set_option linter.unusedVariables false

/-! What a method does to the memory -/
/-! The handlers -/
section
variable {P : Program} {S : List SObj} {w w' : World} {g : G} {base : Nat} {bd : Nat → Nat}

theorem arg2 {args : List PV} {cargs : Array Value} {x y : PV} (ha : args = [x, y]) (hl : args.length = cargs.size) (hV : ∀ (i : Nat) (c : PV), args[i]? = some c → V g w S.length c (cargs.getD i undef)) : ∃ a b, cargs = #[a, b] ∧ V g w S.length x a ∧ V g w S.length y b := by
  subst ha
  match cargs, hl with
  | ⟨[a, b]⟩, _ => exact ⟨a, b, rfl, hV 0 x rfl, hV 1 y rfl⟩
end
end Go.Pam
namespace Go.Pam
set_option linter.unusedVariables false
set_option linter.unusedSimpArgs false
set_option linter.unusedSimpArgs false
set_option linter.unusedVariables false
variable {env : Env} {fr : Fr} {σ : Nat → PV} {S : List SObj} {S0 : List SObj} {R : List Nat} {C : List (Nat × SObj)} {A : List (PV × Nat)} {W : List (PV × SObj)}

variable {hist : List (List SObj)} {pend : List (TypeId × PV × PV)} {rest : List POp} {d : Option Nat} {e : Bool} {K : KS}

end Go.Pam
namespace Go.Pam
set_option linter.unusedVariables false
set_option linter.unusedSimpArgs false
variable {env : Env} {fr : Fr} {σ : Nat → PV} {S : List SObj} {S0 : List SObj} {R : List Nat} {C : List (Nat × SObj)} {A : List (PV × Nat)} {W : List (PV × SObj)}
theorem stp_idxAgg {α : Type} {f : α → PV} {xs : List α} {a i : Operand} {t e : TypeId} {n : Nat} {k : IntKind} {m : Int} {y : α} (ho : opd σ a = .agg (xs.map f)) (hi : opd σ i = .int k m) (ht : (env.ctx.ty t).map (·.und) = some (.array n e)) (hn : n = xs.length)
    (he : (env.ctx.ty e).map (fun ei => (ei.size, ei.agg)) = some (1, false)) (hy : Sl.at? (some xs) m = some y) : stp env fr σ S (.index t a i) = some (f y, S, false) := by
  cases hti : env.ctx.ty t with
  | none => rw [hti] at ht; cases ht
  | some ti =>
    rw [hti] at ht
    have hu : ti.und = .array n e := by simpa using ht
    cases hei : env.ctx.ty e with
    | none => rw [hei] at he; cases he
    | some ei =>
      rw [hei] at he
      simp only [Option.map_some, Option.some.injEq, Prod.mk.injEq] at he
      unfold Sl.at? at hy
      split at hy
      case isFalse => cases hy
      rename_i h0
      rw [Sl.l_some] at hy
      have hlt := (List.getElem?_eq_some_iff.1 hy).1
      simp only [stp, evStep, hi, ho, indexPV, hti, hu, hei]
      rw [if_pos ⟨h0, by omega⟩]
      simp only [partOf, hei, he.1, he.2, Bool.false_eq_true, if_false, Nat.mul_one, List.getElem?_map, hy, Option.map_some]

end Go.Pam
