/- Rows that may be written to, on plain data. -/
import Derived.Test.YthkjepoaddfoiaaPam31
namespace Go.Pam
set_option linter.unusedVariables false
set_option linter.unusedSimpArgs false
variable {env : Env} {fr : Fr} {σ : Nat → PV} {S : List SObj} {S0 : List SObj} {R : List Nat} {C : List (Nat × SObj)} {A : List (PV × Nat)} {W : List (PV × SObj)}
variable {α : Type} {f : α → PV} {sz : Nat} {fz : Bool} {x : Sl α} {v : PV}

def rowO {α : Type} (f : α → PV) (sz : Nat) (fz : Bool) (x : Sl α) : SObj := .row (x.l.map f) sz fz

def IsW {α : Type} (x : Sl α) (v : PV) : Prop := match x with
  | none => v = .nils
  | some l => (v = .emp ∧ l = []) ∨ ∃ id, v = .rsl id l.length

theorem isW_nil : IsW (none : Sl α) .nils := rfl

theorem IsW.upd {x y : Sl α} (h : IsW x v) (hn : x.isNil = y.isNil) (hl : x.l.length = y.l.length) : IsW y v := by
  cases x with
  | none => cases y with
    | none => exact h
    | some l => cases hn
  | some l => cases y with
    | none => cases hn
    | some m =>
      simp only [Sl.l, Option.getD_some] at hl
      rcases h with ⟨h1, rfl⟩ | ⟨id, h1⟩
      · exact .inl ⟨h1, List.length_eq_zero_iff.1 hl.symm⟩
      · exact .inr ⟨id, by rw [← hl]; exact h1⟩

theorem IsW.row_none (h : IsW x v) (hr : rowAt v = none) : x.l = [] := by
  cases x with
  | none => rfl
  | some l => rcases h with ⟨_, rfl⟩ | ⟨id, rfl⟩
              · rfl
              · cases hr

theorem stp_lenW {a : Operand} {t e : TypeId} (ho : opd σ a = v) (h : IsW x v) (ht : (env.ctx.ty t).map (·.und) = some (.slice e)) :
    stp env fr σ S (.call ⟨.builtin .len, #[a], #[t]⟩) = some (.int .i64 (Sl.len x), S, false) := by
  cases hti : env.ctx.ty t with
  | none => rw [hti] at ht; cases ht
  | some ti =>
    rw [hti] at ht
    have hu : ti.und = .slice e := by simpa using ht
    cases x with
    | none => cases h; simp [stp, evStep, callPV, ho, lenPV, hti, hu, Sl.len, Sl.l]
    | some l => rcases h with ⟨rfl, rfl⟩ | ⟨id, rfl⟩ <;> simp [stp, evStep, callPV, ho, lenPV, hti, hu, Sl.len, Sl.l]

theorem IsW.at {i : Int} {y : α} (h : IsW x v) (hy : Sl.at? x i = some y) : ∃ id, v = .rsl id x.l.length ∧ 0 ≤ i ∧ i < x.l.length ∧ x.l[i.toNat]? = some y := by
  unfold Sl.at? at hy
  split at hy
  case isFalse => cases hy
  rename_i h0
  have hlt : i.toNat < x.l.length := (List.getElem?_eq_some_iff.1 hy).1
  cases x with
  | none => simp [Sl.l] at hy
  | some l => rcases h with ⟨_, rfl⟩ | ⟨id, rfl⟩
              · simp [Sl.l] at hy
              · exact ⟨id, rfl, h0, by omega, hy⟩

theorem stp_idxW {a i : Operand} {t e : TypeId} {k : IntKind} {n : Int} {y : α} {id : Nat} (ho : opd σ a = v) (h : IsW x v) (hi : opd σ i = .int k n)
    (ht : (env.ctx.ty t).map (·.und) = some (.slice e)) (he : (env.ctx.ty e).map (·.size) = some sz) (hy : Sl.at? x n = some y) (hid : rowAt v = some id) :
    stp env fr σ S (.indexAddr t a i) = some (.ptr id (n.toNat * sz), S, false) := by
  obtain ⟨id', rfl, h0, h1, _⟩ := h.at hy
  injection hid with hid; subst hid
  cases hti : env.ctx.ty t with
  | none => rw [hti] at ht; cases ht
  | some ti =>
    rw [hti] at ht
    have hu : ti.und = .slice e := by simpa using ht
    cases hei : env.ctx.ty e with
    | none => rw [hei] at he; cases he
    | some ei =>
      rw [hei] at he
      have hs : ei.size = sz := by simpa using he
      simp only [stp, evStep, hi, ho, indexAddrPV, hti, hu, hei]
      rw [if_pos ⟨h0, h1⟩, hs]
      rfl

theorem row_at {i : Int} {y : α} (h : Sl.at? x i = some y) {n : Nat} (hn : n = (Int.toNat i)) : (x.l.map f)[n]? = some (f y) := by
  subst hn
  unfold Sl.at? at h
  split at h
  · rw [List.getElem?_map, h]; rfl
  · cases h

theorem divmod {i off sz : Nat} (h : off < sz) : (i * sz + off) / sz = i ∧ (i * sz + off) % sz = off := by
  have hs : 0 < sz := by omega
  constructor
  · rw [Nat.mul_comm, Nat.mul_add_div hs, Nat.div_eq_of_lt h]; rfl
  · rw [Nat.mul_comm, Nat.mul_add_mod, Nat.mod_eq_of_lt h]

theorem loadW {ctx : Ctx} {t : TypeId} {id off : Nat} {n : Int} {y : α} {u : PV} (hg : S[id]? = some (rowO f sz fz x)) (hy : Sl.at? x n = some y) (ho : off < sz) (hp : partOf ctx t (f y).cells off = some u) :
    loadPV ctx t (.ptr id (n.toNat * sz + off)) S = some u := by
  obtain ⟨h1, h2⟩ := divmod (i := n.toNat) ho
  simp only [loadPV, hg, rowO, h1, h2, row_at (f := f) hy rfl, Option.bind_some, hp]

theorem stp_loadW {t : TypeId} {a : Operand} {id off : Nat} {n : Int} {y : α} {u : PV} (ha : opd σ a = .ptr id (n.toNat * sz + off)) (hg : S[id]? = some (rowO f sz fz x)) (hy : Sl.at? x n = some y) (ho : off < sz) (hp : partOf env.ctx t (f y).cells off = some u) :
    stp env fr σ S (.load t a) = some (u, S, false) := by
  simp only [stp, evStep, ha, loadW hg hy ho hp, Option.map_some]

def Sl.set (x : Sl α) (i : Int) (y : α) : Sl α := x.map fun l => l.set i.toNat y

theorem Sl.set_l (x : Sl α) (i : Int) (y : α) : (x.set i y).l = x.l.set i.toNat y := by cases x <;> rfl

theorem IsW.set (h : IsW x v) (i : Int) (y : α) : IsW (x.set i y) v := h.upd (by cases x <;> rfl) (by rw [Sl.set_l, List.length_set])

theorem rowO_set (i : Int) (y : α) : rowO f sz fz (x.set i y) = .row ((x.l.map f).set i.toNat (f y)) sz fz := by
  unfold rowO; rw [Sl.set_l, List.map_set]

theorem stp_storeW {t : TypeId} {a b : Operand} {id off ts : Nat} {n : Int} {y y' : α} {u : PV} {xc : List PV} {e : Bool} (ha : opd σ a = .ptr id (n.toNat * sz + off)) (hb : opd σ b = u) (hg : S[id]? = some (rowO f sz false x)) (hy : Sl.at? x n = some y)
    (ht : (env.ctx.ty t).map (·.size) = some ts) (hs : u.storable = true) (hc : u.strip.cells = xc) (hl : xc.length = ts) (hfit : off + ts ≤ sz) (hpos : off < sz) (hz : putCells (f y) off xc = some (f y')) (he : (decide (id < fr.base) && !u.clean) = e) :
    stp env fr σ S (.store t a b) = some (.tup [], S.set id (rowO f sz false (x.set n y')), e) := by
  cases hti : env.ctx.ty t with
  | none => rw [hti] at ht; cases ht
  | some ti =>
    rw [hti] at ht
    have hts : ti.size = ts := by simpa using ht
    subst hc hts
    obtain ⟨h1, h2⟩ := divmod (i := n.toNat) hpos
    have hlen : u.cells.length = ti.size := by rw [← strip_cells_len]; exact hl
    have hn : ¬ (u.storable = false ∨ u.cells.length ≠ ti.size ∨ off + ti.size > sz) := by
      rintro (h | h | h)
      · rw [hs] at h; cases h
      · exact h hlen
      · omega
    have hr := row_at (f := f) hy rfl
    simp only [rowO] at hg
    simp only [stp, evStep, ha, hb, storePV, hg, hti, h1, h2, if_neg hn, hr, Option.bind_some, hz, Option.map_some, he, rowO_set]

theorem putCells_one {y u : PV} (hy : y.isOne = true) (hu : u.isOne = true) : putCells y 0 [u] = some u := by
  unfold putCells
  split
  · cases hy
  · rename_i h; injection h with h; subst h; rw [if_pos hu]
  · rename_i h1 h2; exact absurd rfl (h2 u)

theorem isOne_enc {β : Type} (g : β → PV) (s : Sl β) : (encSl g s).isOne = true := by cases s <;> rfl

theorem WO.storeW (j : Nat) {t : TypeId} {a b : Operand} {d : Option Nat} {rest : List POp} {σ1 : Nat → PV} {S1 : List SObj} {id off ts : Nat} {n : Int} {y y' : α} {u : PV} {xc : List PV} {e e' : Bool} {K : KS} (hd : dstOk fr.ntmps d = true)
    (hz : frzT (frzArgs env.ctx σ (.store t a b)) σ S = (σ1, S1)) (H : Hp S0 R S1 C A W) (hj : W[j]? = some (v, rowO f sz false x)) (hid : rowAt v = some id)
    (ha : opd σ1 a = .ptr id (n.toNat * sz + off)) (hb : opd σ1 b = u) (hy : Sl.at? x n = some y)
    (ht : (env.ctx.ty t).map (·.size) = some ts) (hs : u.storable = true) (hc : u.strip.cells = xc) (hl : xc.length = ts) (hfit : off + ts ≤ sz) (hpos : off < sz) (hp : putCells (f y) off xc = some (f y')) (he : (decide (id < fr.base) && !u.clean) = e')
    (h : ∀ S', Hp S0 R S' C A (W.set j (v, rowO f sz false (x.set n y'))) → WO env fr rest (upd σ d (.tup [])) S' (e || e') K) : WO env fr (⟨d, .store t a b, none, false⟩ :: rest) σ S e K :=
  WO.step hd (yz hz (stp_storeW ha hb (H.getW j hj hid) hy ht hs hc hl hfit hpos hp he)) (h _ (H.setW j hj hid _ rfl))

/-! How they are made -/
def Sl.emp (x : Sl α) : Sl α := x.map fun _ => []

theorem stp_slice3 {a : Operand} {lo hi m : Option Operand} {t e : TypeId} (ho : opd σ a = v) (h : IsSl f x v) (hl : boundOf (lo.map (opd σ)) 0 = some 0) (hh : (hi.map (opd σ)) = some (.int .i64 0)) (hm : (m.map (opd σ)) = some (.int .i64 0))
    (ht : (env.ctx.ty t).map (·.und) = some (.slice e)) (he : (env.ctx.ty e).isSome = true) :
    ∃ v', stp env fr σ S (.slice t a lo hi m) = some (v', S, false) ∧ IsW (Sl.emp x) v' ∧ rowAt v' = none := by
  cases hti : env.ctx.ty t with
  | none => rw [hti] at ht; cases ht
  | some ti =>
    rw [hti] at ht
    have hu : ti.und = .slice e := by simpa using ht
    obtain ⟨ei, hei⟩ := Option.isSome_iff_exists.1 he
    cases x with
    | none =>
      cases h
      refine ⟨.nils, ?_, rfl, rfl⟩
      simp only [stp, evStep, ho, slicePV, hti, hu, hei, hl, hh, hm]
      rfl
    | some l =>
      obtain ⟨tag, rfl⟩ := h
      refine ⟨.emp, ?_, .inl ⟨rfl, rfl⟩, rfl⟩
      simp only [stp, evStep, ho, slicePV, hti, hu, hei, hl, hh, hm]
      rfl

theorem born_app (H : Hp S0 R S C A W) (j : Nat) {y z : Sl α} {w : PV} {a b : Operand} {t u e : TypeId} {ei : TyI} (hj : W[j]? = some (v, rowO f ei.size false x))
    (ho : opd σ a = v) (hx : IsW x v) (hb : opd σ b = w) (hw : IsSl f y w)
    (ht : (env.ctx.ty t).map (·.und) = some (.slice e)) (hu : (env.ctx.ty u).map (·.und) = some (.slice e)) (he : env.ctx.ty e = some ei)
    (hok : (decide (ei.size ≠ 0) && decide (ei.bytes ≠ 0) && ei.zero.storable && decide (ei.zero.cells.length = ei.size)) = true)
    (hc : ∀ a, (f a).cells.length = ei.size) (hz : Sl.app? ei.bytes x y.l = some z) :
    ∃ v' S', birthPV env.ctx σ S (.call ⟨.builtin .append, #[a, b], #[t, u]⟩) = some (v', S') ∧ IsW z v' ∧ Hp S0 R S' C A (W.set j (v', rowO f ei.size false z)) := by
  simp only [Bool.and_eq_true, decide_eq_true_eq] at hok
  obtain ⟨⟨⟨k1, k2⟩, k3⟩, k4⟩ := hok
  cases hti : env.ctx.ty t with
  | none => rw [hti] at ht; cases ht
  | some ti =>
  rw [hti] at ht
  have ht' : ti.und = .slice e := by simpa using ht
  cases hui : env.ctx.ty u with
  | none => rw [hui] at hu; cases hu
  | some ui =>
  rw [hui] at hu
  have hu' : ui.und = .slice e := by simpa using hu
  unfold Sl.app? at hz
  split at hz
  case isFalse => cases hz
  rename_i hfit
  injection hz with hz
  have hlist : listOf w = some (y.l.map f) := by
    cases y with
    | none => cases hw; rfl
    | some l => obtain ⟨tag, rfl⟩ := hw; rfl
  have setself : ∀ (q : PV × SObj), W[j]? = some q → W.set j q = W := by
    intro q hq
    apply List.ext_getElem?
    intro i
    rw [List.getElem?_set]
    split
    · rename_i hi; subst hi; rw [hq]; split
      · rfl
      · have := (List.getElem?_eq_some_iff.1 hq).1; omega
    · rfl
  cases hemp : y.l.isEmpty with
  | true =>
    rw [hemp] at hz
    simp only [if_true] at hz
    subst hz
    have hnil : y.l = [] := by simpa using hemp
    refine ⟨v, S, ?_, hx, by rw [setself _ hj]; exact H⟩
    have happ : ∀ s, isSlice s = true → appendPV env.ctx #[t, u] s w S = some (s, S) := by
      intro s hs
      simp only [appendPV, List.getElem?_toArray, List.getElem?_cons_zero, List.getElem?_cons_succ, hti, hui, hlist, ht', hu', he]
      simp [hnil, hs]
    simp only [birthPV, List.map_cons, List.map_nil, ho, hb]
    cases x with
    | none => cases hx; simp only [hlist, hnil, List.map_nil]; exact happ _ rfl
    | some l => rcases hx with ⟨rfl, rfl⟩ | ⟨id, rfl⟩
                · simp only [hlist, hnil, List.map_nil]; exact happ _ rfl
                · exact happ _ rfl
  | false =>
    rw [hemp] at hz
    simp only [Bool.false_eq_true, if_false] at hz
    subst hz
    have hne : (y.l.map f).isEmpty = false := by simpa using hemp
    have hne' : y.l.map f ≠ [] := by simpa using hemp
    have hsz := sized_map hc y.l
    have cond : ¬ (sizedAll ei.size (y.l.map f) = false ∨ ei.size = 0 ∨ ei.bytes = 0 ∨ ei.zero.storable = false ∨ ei.zero.cells.length ≠ ei.size) := by
      rw [hsz]; simp [k1, k2, k3, k4]
    have happ : ∀ s, appendPV env.ctx #[t, u] s w S = growPV ei s (y.l.map f) S := by
      intro s
      simp only [appendPV, List.getElem?_toArray, List.getElem?_cons_zero, List.getElem?_cons_succ, hti, hui, hlist, ht', hu', he, hne, Bool.false_eq_true, if_false]
      rw [if_neg cond]
      rfl
    -- a new row
    have born : x.l = [] → rowAt v = none → birthPV.bornApp env.ctx #[t, u] w S = some (.rsl S.length y.l.length, S ++ [.row (y.l.map f) ei.size false]) ∧
        Hp S0 R (S ++ [.row (y.l.map f) ei.size false]) C A (W.set j (.rsl S.length y.l.length, rowO f ei.size false (some (x.l ++ y.l)))) := by
      intro hl hv
      have hfit' : (y.l.map f).length * ei.bytes ≤ 2 ^ 47 := by have h := hfit; rw [hl] at h; simpa using h
      have e0 : rowO f ei.size false (some (x.l ++ y.l)) = .row (y.l.map f) ei.size false := by
        show SObj.row ((x.l ++ y.l).map f) ei.size false = _
        rw [hl]; rfl
      rw [e0]
      refine ⟨?_, ?_⟩
      · unfold birthPV.bornApp
        rw [happ]
        simp only [growPV, hfit', if_true]
        simp
      · have h1 := H.more (.row (y.l.map f) ei.size false)
        have h2 := H.addW y.l.length (.row (y.l.map f) ei.size false) rfl
        refine { h1 with row := fun q hq id hid => ?_, rdis := pw_opt H.rdis (x := (PV.rsl S.length y.l.length, SObj.row (y.l.map f) ei.size false)) fun m hm k q _ hk he2 => ?_ }
        · rcases mem_set_of hq with rfl | ⟨k, hne, hk⟩
          · have := h2.row (.rsl S.length y.l.length, .row (y.l.map f) ei.size false) List.mem_cons_self id hid
            exact this
          · exact h1.row q (List.mem_of_getElem? hk) id hid
        · injection hm with hm; subst hm
          have := lt_of_get (H.row q (List.mem_of_getElem? hk) _ he2).2.1
          omega
    simp only [birthPV, List.map_cons, List.map_nil, ho, hb]
    cases x with
    | none =>
      cases hx
      obtain ⟨b1, b2⟩ := born rfl rfl
      refine ⟨_, _, ?_, .inr ⟨S.length, by simp [Sl.l]⟩, b2⟩
      simp only [hlist]
      split
      · rename_i h; injection h with h; exact absurd h hne'
      · exact b1
    | some l =>
      rcases hx with ⟨rfl, rfl⟩ | ⟨id, rfl⟩
      · obtain ⟨b1, b2⟩ := born rfl rfl
        refine ⟨_, _, ?_, .inr ⟨S.length, by simp [Sl.l]⟩, b2⟩
        simp only [hlist]
        split
        · rename_i h; injection h with h; exact absurd h hne'
        · exact b1
      · have hg := H.getW j hj (id := id) rfl
        have hfit : (l.length + y.l.length) * ei.bytes ≤ 2 ^ 47 := hfit
        refine ⟨.rsl S.length (l.length + y.l.length), S.set id .dead ++ [.row (l.map f ++ y.l.map f) ei.size false], ?_, .inr ⟨S.length, by simp [Sl.l]⟩, ?_⟩
        · simp only [happ, growPV, hg, rowO, Sl.l, Option.getD_some]
          rw [if_pos ⟨(List.length_map _).symm, trivial, by rw [List.length_map, List.length_map]; exact hfit⟩, List.length_map, List.length_map]
        · have := H.growW j hj (id := id) rfl (l.length + y.l.length) (.row (l.map f ++ y.l.map f) ei.size false) rfl
          have e0 : rowO f ei.size false (some (Sl.l (some l : Sl α) ++ y.l)) = .row (l.map f ++ y.l.map f) ei.size false := by
            show SObj.row ((l ++ y.l).map f) ei.size false = _
            rw [List.map_append]
          rw [e0]; exact this

def Sl.mk2? {α : Type} (bytes : Nat) (n m : Int) (z : α) : Option (Sl α) := if 0 ≤ n ∧ n ≤ m ∧ bytes * m ≤ 2 ^ 47 ∧ m ≤ 2 ^ 62 then some (some (List.replicate n.toNat z)) else none

theorem born_make {z : α} {t e : TypeId} {ei : TyI} {l c : Operand} {n m : Int} {k k' : IntKind} (hl : opd σ l = .int k n) (hc : opd σ c = .int k' m) (ht : (env.ctx.ty t).map (·.und) = some (.slice e)) (he : env.ctx.ty e = some ei)
    (hok : (decide (ei.size ≠ 0) && decide (ei.zero.cells.length = ei.size) && ei.zero.storable) = true) (hz : f z = ei.zero)
    (hx : Sl.mk2? ei.bytes n m z = some x) (H : Hp S0 R S C A W) :
    ∃ v' S', birthPV env.ctx σ S (.makeSlice t l c) = some (v', S') ∧ IsW x v' ∧ Hp S0 R S' C A ((v', rowO f ei.size false x) :: W) := by
  simp only [Bool.and_eq_true, decide_eq_true_eq] at hok
  obtain ⟨⟨k1, k2⟩, k3⟩ := hok
  cases hti : env.ctx.ty t with
  | none => rw [hti] at ht; cases ht
  | some ti =>
  rw [hti] at ht
  have ht' : ti.und = .slice e := by simpa using ht
  unfold Sl.mk2? at hx
  split at hx
  case isFalse => cases hx
  rename_i hn
  injection hx with hx; subst hx
  refine ⟨.rsl S.length n.toNat, S ++ [.row (List.replicate n.toNat ei.zero) ei.size false], ?_, .inr ⟨S.length, by simp⟩, ?_⟩
  · simp only [birthPV, hti, hl, hc, ht', he]
    rw [if_pos ⟨hn.1, hn.2.1, hn.2.2.1, hn.2.2.2, k1, k2, k3⟩]
  · have := H.addW n.toNat (.row (List.replicate n.toNat ei.zero) ei.size false) rfl
    simpa [rowO, Sl.l, hz] using this

theorem born_bytes {s : Str} {a : Operand} {st dt e : TypeId} (ho : opd σ a = .str s) (hs : (env.ctx.ty st).map (·.und) = some .string) (hd : (env.ctx.ty dt).map (·.und) = some (.slice e)) (he : (env.ctx.ty e).map (·.und) = some (.int .u8)) (H : Hp S0 R S C A W) :
    ∃ v' S', birthPV env.ctx σ S (.convert st dt a) = some (v', S') ∧ IsW (Str.bytes s) v' ∧ Hp S0 R S' C A ((v', rowO (eI .u8) 1 false (Str.bytes s)) :: W) := by
  cases h1 : env.ctx.ty st with
  | none => rw [h1] at hs; cases hs
  | some si =>
  rw [h1] at hs
  have hs' : si.und = .string := by simpa using hs
  cases h2 : env.ctx.ty dt with
  | none => rw [h2] at hd; cases hd
  | some di =>
  rw [h2] at hd
  have hd' : di.und = .slice e := by simpa using hd
  cases h3 : env.ctx.ty e with
  | none => rw [h3] at he; cases he
  | some ei =>
  rw [h3] at he
  have he' : ei.und = .int .u8 := by simpa using he
  have := H.addW s.length (.row (s.map fun b => PV.int .u8 b.toNat) 1 false) rfl
  refine ⟨.rsl S.length s.length, S ++ [.row (s.map fun b => PV.int .u8 b.toNat) 1 false], ?_, .inr ⟨S.length, by simp [Str.bytes]⟩, ?_⟩
  · simp [birthPV, ho, convPV, h1, h2, hs', hd', h3, he']
  · simpa [rowO, Sl.l, Str.bytes, Function.comp_def] using this

/-! How they become lists -/
theorem IsW.frz (H : Hp S0 R S C A W) (j : Nat) (hj : W[j]? = some (v, rowO f sz fz x)) (hx : IsW x v) :
    ∃ S', frz1 v S = (encSl f x, S') ∧ Hp S0 R S' C A (W.set j (v, rowO f sz true x)) := by
  cases hr : rowAt v with
  | none =>
    have h1 : frz1 v S = (encSl f x, S) := by
      cases x with
      | none => cases hx; rfl
      | some l => rcases hx with ⟨rfl, rfl⟩ | ⟨id, rfl⟩
                  · rfl
                  · cases hr
    refine ⟨S, h1, ?_⟩
    refine { H with row := fun q hq id hid => ?_, rdis := pw_opt H.rdis (x := (v, rowO f sz true x)) fun m hm k q _ hk he2 => by rw [hr] at hm; cases hm }
    rcases mem_set_of hq with rfl | ⟨k, hne, hk⟩
    · rw [hr] at hid; cases hid
    · exact H.row q (List.mem_of_getElem? hk) id hid
  | some id =>
    have hg := H.getW j hj hr
    cases x with
    | none => cases hx; cases hr
    | some l => rcases hx with ⟨rfl, rfl⟩ | ⟨id', rfl⟩
                · cases hr
                · injection hr with hr; subst hr
                  refine ⟨S.set id' (rowO f sz true (some l)), ?_, H.setW j hj rfl _ rfl⟩
                  unfold frz1 frzQ
                  simp only [hg, rowO, Sl.l, Option.getD_some, List.length_map, if_true]
                  rfl

theorem Hp.ownW (H : Hp S0 [] S C A W) (j : Nat) {o : SObj} {id : Nat} (hj : W[j]? = some (v, o)) (hv : rowAt v = some id) : S0.length ≤ id := by
  rcases (H.row _ (List.mem_of_getElem? hj) id hv).1 with h | h
  · exact h
  · cases h

theorem IsW.id {i : Int} {y : α} (h : IsW x v) (hy : Sl.at? x i = some y) : ∃ id, rowAt v = some id := by
  obtain ⟨id, h1, _⟩ := h.at hy
  exact ⟨id, by rw [h1]; rfl⟩

theorem upd_self {t : Nat} : upd σ (some t) (σ t) = σ := by
  funext i; simp only [upd]; split
  · rename_i h; rw [h]
  · rfl

theorem fz_W {t : Nat} {v' : PV} {S' : List SObj} {xs : List Operand} {r : (Nat → PV) × List SObj} (h : frz1 (σ t) S = (v', S')) (hs : frzT xs (upd σ (some t) v') S' = r) : frzT (.tmp t :: xs) σ S = r := by
  simp only [frzT]
  unfold frz1 at h
  cases hq : frzQ (σ t) S with
  | none =>
    rw [hq] at h
    injection h with h1 h2
    rw [← h1, upd_self, ← h2] at hs
    exact hs
  | some q => rw [hq] at h; simp only [Option.getD_some] at h; subst h; exact hs

theorem fz_tmp' {t : Nat} {xs : List Operand} {r : (Nat → PV) × List SObj} (h : frzQ (σ t) S = none) (hs : frzT xs σ S = r) : frzT (.tmp t :: xs) σ S = r := by
  simp only [frzT, h]; exact hs
theorem fz_oth' {y : Operand} {xs : List Operand} {r : (Nat → PV) × List SObj} (h : ∀ t, y ≠ .tmp t) (hs : frzT xs σ S = r) : frzT (y :: xs) σ S = r := by
  cases y with
  | tmp t => exact absurd rfl (h t)
  | const v => exact hs
  | global i => exact hs
  | func f => exact hs

theorem fl_W {u u' : PV} {S' S'' : List SObj} {vs vs' : List PV} (h : frz1 u S = (u', S')) (hs : frzL vs S' = (vs', S'')) : frzL (u :: vs) S = (u' :: vs', S'') := by
  simp only [frzL, h, hs]
theorem fl_cons' {u : PV} {S'' : List SObj} {vs vs' : List PV} (h : frzQ u S = none) (hs : frzL vs S = (vs', S'')) : frzL (u :: vs) S = (u :: vs', S'') := by
  have h1 : frz1 u S = (u, S) := by unfold frz1; rw [h]; rfl
  exact fl_W h1 hs

theorem IsSl.frz {u : PV} (h : IsSl f x u) : frzQ u S = none := by
  cases x with
  | none => cases h; rfl
  | some l => obtain ⟨tag, rfl⟩ := h; rfl

theorem IsSl.notRow {u : PV} (h : IsSl f x u) : notRow u = true := by
  cases x with
  | none => cases h; rfl
  | some l => obtain ⟨tag, rfl⟩ := h; rfl

theorem ind_of {op : Op} {d : Option Nat} {g : Option (Nat × Bool)} (h1 : indepOp (frzT (frzArgs env.ctx σ op) σ []).1 op = true) (h2 : ∀ y ∈ frzArgs env.ctx σ op, Go.Pam.notRow (opd σ y) = true) : indep env.ctx σ ⟨d, op, g, false⟩ = true := by
  simp only [indep, Bool.not_false, Bool.true_and, Bool.and_eq_true, List.all_eq_true]
  exact ⟨h1, h2⟩

/-! A function that hands on a row as such -/
theorem evw_rawW {g : FuncId} {pf : PFn} (hi : env.intr g = none) (hf : env.fn g = some pf) {args bs : List PV} (ha : args.map PV.strip = bs) (hbb : bs.map PV.strip = bs) (hl : bs.length ≤ pf.ntmps) (hc : cleanL bs = true)
    (h : ∀ (vs : List PV) (S : List SObj), vs.map PV.strip = bs → WB env pf vs S fun v S' e => IsW x v ∧ e = false ∧ Hp S [] S' [] [] [(v, rowO f sz false x)]) (S : List SObj) :
    ∃ v S', evw env g args S = some (v, S', false) ∧ IsW x v ∧ Hp S [] S' [] [] [(v, rowO f sz false x)] := by
  obtain ⟨w0, S1, e1, hb0, hw0, rfl, hp0⟩ := (h bs [] hbb).run
  obtain ⟨w, S2, e2, hb, hw, rfl, hp⟩ := (h args S ha).run
  obtain ⟨k0, hk0⟩ := body_lim hb0
  obtain ⟨k, hk⟩ := body_lim hb
  have hle : args.length ≤ pf.ntmps := by rw [← ha] at hl; simpa using hl
  by_cases hcl : w0.strip.clean = true
  · refine ⟨w0.strip, S, lim_of (k0 + k + 1) fun k' hk' => ?_, ?_⟩
    · obtain ⟨j, rfl⟩ : ∃ j, k' = j + 1 := ⟨k' - 1, by omega⟩
      simp only [ev, hi, hf, hle, if_true, ha, hc, hk0 j (by omega), hcl]
    · have hr : rowAt w0 = none := by cases w0 <;> first | rfl | simp [PV.strip, PV.clean] at hcl
      have hs : w0.strip = w0 := by
        cases x with
        | none => cases hw0; rfl
        | some l => rcases hw0 with ⟨rfl, _⟩ | ⟨id, rfl⟩ <;> rfl
      rw [hs]
      exact ⟨hw0, (Hp.start S).addNoW _ _ hr⟩
  · have hrun : ∀ k', k0 + k + 1 ≤ k' → ev env k' g args S = some (leave S.length w S2 false) := by
      intro k' hk'
      obtain ⟨j, rfl⟩ : ∃ j, k' = j + 1 := ⟨k' - 1, by omega⟩
      simp only [ev, hi, hf, hle, if_true, ha, hc, hk0 j (by omega), hcl, hk j (by omega)]
      rfl
    by_cases hcw : w.strip.clean = true
    · have hr : rowAt w = none := by cases w <;> first | rfl | simp [PV.strip, PV.clean] at hcw
      have hs : w.strip = w := by
        cases x with
        | none => cases hw; rfl
        | some l => rcases hw with ⟨rfl, _⟩ | ⟨id, rfl⟩ <;> rfl
      have hlv : leave S.length w S2 false = (w, S, false) := leave_of rfl hs (by rw [← hs]; exact hcw) rfl hp.len (fun i hi => hp.old i hi (by simp))
      exact ⟨w, S, lim_of _ fun k' hk' => by rw [hrun k' hk', hlv], hw, (Hp.start S).addNoW _ _ hr⟩
    · have hlv : leave S.length w S2 false = (w, S2, false) := by
        unfold leave; rw [if_neg (by simp [hcw])]
      exact ⟨w, S2, lim_of _ fun k' hk' => by rw [hrun k' hk', hlv], hw, hp⟩

theorem Hp.callW {S' : List SObj} {o : SObj} {u : PV} (H : Hp S0 R S C A W) (N : Hp S [] S' [] [] [(u, o)]) : Hp S0 R S' C A ((u, o) :: W) := by
  have M := H.after N (fun _ _ h => by cases h) (fun _ h => by cases h) (fun _ _ _ _ h => by cases h) (fun _ _ _ _ h => by cases h)
  have hl := H.len
  refine { M with row := fun q hq id hid => ?_, rdis := List.pairwise_cons.2 ⟨fun q hq => ?_, H.rdis⟩ }
  · rcases List.mem_cons.1 hq with rfl | hq
    · obtain ⟨h1, h2, h3⟩ := N.row _ List.mem_cons_self id hid
      refine ⟨.inl ?_, h2, h3⟩
      rcases h1 with h1 | h1
      · omega
      · cases h1
    · exact M.row q hq id hid
  · cases hu : rowAt u with
    | none => exact .inl rfl
    | some id =>
      refine .inr fun he => ?_
      have h1 := lt_of_get (H.row q hq id he.symm).2.1
      rcases (N.row _ List.mem_cons_self id hu).1 with h2 | h2
      · omega
      · cases h2

theorem stp_isNilW {β : Type} {x : Sl β} {t u e : TypeId} {a b : Operand} (ha : opd σ a = v) (hx : IsW x v) (hb : opd σ b = .nils) (ht : (env.ctx.ty t).map (·.und) = some (.slice e)) :
    stp env fr σ S (.binOp .eql t a b u) = some (.bool (Sl.isNil x), S, false) := by
  cases hti : env.ctx.ty t with
  | none => rw [hti] at ht; cases ht
  | some ti =>
    rw [hti] at ht
    have hu : ti.und = .slice e := by simpa using ht
    cases x with
    | none => cases hx; simp [stp, evStep, ha, hb, binPV, eqGuardOk, eqIn, hti, hu, Sl.isNil]
    | some l => rcases hx with ⟨rfl, rfl⟩ | ⟨id, rfl⟩ <;> simp [stp, evStep, ha, hb, binPV, eqGuardOk, eqIn, hti, hu, Sl.isNil]

theorem yzx {op : Op} {d : Option Nat} {g : Option (Nat × Bool)} {σ1 : Nat → PV} {S1 : List SObj} {P : PV → List SObj → Prop} (hz : frzT (frzArgs env.ctx σ op) σ S = (σ1, S1)) (hs : ∃ v' S', stp env fr σ1 S1 op = some (v', S', false) ∧ P v' S') :
    ∃ v' S', stF env fr σ S ⟨d, op, g, false⟩ = some (v', S', false) ∧ P v' S' := by
  obtain ⟨v', S', h1, h2⟩ := hs
  exact ⟨v', S', yz hz h1, h2⟩
theorem bzx {op : Op} {d : Option Nat} {g : Option (Nat × Bool)} {σ1 : Nat → PV} {S1 : List SObj} {P : PV → List SObj → Prop} (hz : frzT (frzArgs env.ctx σ op) σ S = (σ1, S1)) (hs : ∃ v' S', birthPV env.ctx σ1 S1 op = some (v', S') ∧ P v' S') :
    ∃ v' S', stF env fr σ S ⟨d, op, g, true⟩ = some (v', S', false) ∧ P v' S' := by
  obtain ⟨v', S', h1, h2⟩ := hs
  exact ⟨v', S', bz hz h1, h2⟩
theorem bzn {op : Op} {d : Option Nat} {g : Option (Nat × Bool)} {P : PV → List SObj → Prop} (hz : frzT (frzArgs env.ctx σ op) σ S = (σ, S)) (hs : ∃ v' S', birthPV env.ctx σ S op = some (v', S') ∧ P v' S') :
    ∃ v' S', stF env fr σ S ⟨d, op, g, true⟩ = some (v', S', false) ∧ P v' S' := bzx hz hs
theorem nzxS {op : Op} {d : Option Nat} {g : Option (Nat × Bool)} {P : PV → Prop} {Q : PV → List SObj → Prop} (hz : frzT (frzArgs env.ctx σ op) σ S = (σ, S)) (hs : ∃ v', stp env fr σ S op = some (v', S, false) ∧ P v') (hq : ∀ v', P v' → Q v' S) :
    ∃ v' S', stF env fr σ S ⟨d, op, g, false⟩ = some (v', S', false) ∧ Q v' S' := by
  obtain ⟨v', h1, h2⟩ := hs
  exact ⟨v', S, nz hz h1, hq v' h2⟩

theorem stp_slice3W {β : Type} {f : β → PV} {x : Sl β} {a : Operand} {lo hi m : Option Operand} {t e : TypeId} (sz : Nat) (ho : opd σ a = v) (h : IsSl f x v) (hl : boundOf (lo.map (opd σ)) 0 = some 0) (hh : (hi.map (opd σ)) = some (.int .i64 0)) (hm : (m.map (opd σ)) = some (.int .i64 0))
    (ht : (env.ctx.ty t).map (·.und) = some (.slice e)) (he : (env.ctx.ty e).isSome = true) (H : Hp S0 R S C A W) :
    ∃ v' S', stp env fr σ S (.slice t a lo hi m) = some (v', S', false) ∧ IsW (Sl.emp x) v' ∧ Hp S0 R S' C A ((v', rowO f sz false (Sl.emp x)) :: W) := by
  obtain ⟨v', h1, h2, h3⟩ := stp_slice3 (env := env) (fr := fr) (S := S) ho h hl hh hm ht he
  exact ⟨v', S, h1, h2, H.addNoW _ _ h3⟩

theorem stp_callW {β : Type} {f : β → PV} {x : Sl β} {sz : Nat} {g : FuncId} {op : Operand} {args : Array Operand} {ts : Array TypeId} {cap vs : List PV} (hf : opd σ op = .fn (.func g) [] cap) (ha : args.toList.map (opd σ) ++ cap = vs) (H : Hp S0 R S C A W)
    (hc : ∃ v S', evw env g vs S = some (v, S', false) ∧ IsW x v ∧ Hp S [] S' [] [] [(v, rowO f sz false x)]) :
    ∃ v' S', stp env fr σ S (.call ⟨.value op, args, ts⟩) = some (v', S', false) ∧ IsW x v' ∧ Hp S0 R S' C A ((v', rowO f sz false x) :: W) := by
  obtain ⟨v, S', h1, h2, h3⟩ := hc
  exact ⟨v, S', stp_call hf ha h1, h2, H.callW h3⟩
end Go.Pam
