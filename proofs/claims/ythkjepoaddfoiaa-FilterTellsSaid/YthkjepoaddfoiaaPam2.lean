/- The store of the abstract machine and the model's memory: what each step does to both. -/
import Derived.Test.YthkjepoaddfoiaaPam1
import Derived.Laws.IdiomCopy
import Derived.Laws.Cells
namespace Go.Pam
set_option linter.unusedVariables false
set_option linter.unusedSimpArgs false
open Go.RowKit

def lim (base : Nat) (bd : Nat → Nat) (n id : Nat) : Nat := if id < base then bd id else n

def Live (w : World) (g : G) (m id : Nat) : SObj → Prop
  | .cells cs => g.obj id = true ∧ ¬ g.fix (g.loc id) ∧ g.pp (g.loc id) = 0 ∧ ∃ cur e, w.heap[g.loc id]? = some (.cells cur e (0, 0)) ∧ cur.size = cs.length ∧
      (∀ v ∈ cur, v.oneCell' = true) ∧ ∀ (j : Nat) (c : PV), cs[j]? = some c → V g w m c (cur.getD j undef)
  | .map es => g.obj id = true ∧ ¬ g.fix (g.loc id) ∧ g.pp (g.loc id) = 0 ∧ ∃ es' clock, w.heap[g.loc id]? = some (.map es' clock) ∧ es'.size = es.length ∧
      ∀ (j : Nat) (kv : PV × PV), es[j]? = some kv → ∃ e, es'[j]? = some e ∧ V g w m kv.1 e.key ∧ V g w m kv.2 e.val
  | .tip hw sz => g.obj id = false ∧ g.hw id = hw ∧ g.tsz id = sz ∧ ¬ g.fix (g.loc id) ∧ g.loc id < w.heap.size
  | .dead => g.obj id = true
  | .bld t u b => g.obj id = true ∧ ¬ g.fix (g.loc id) ∧ g.pp (g.loc id) = 0 ∧ (∀ j n, b = some (j, n) → j < m ∧ g.obj j = true) ∧
      w.heap[g.loc id]? = some (.cells #[.pointer (if u then some ⟨g.loc id, 0, none⟩ else none), bufVal g.loc g.hw b] t (0, 0))
  | .buf bs t => g.obj id = true ∧ ¬ g.fix (g.loc id) ∧ g.pp (g.loc id) = 0 ∧ bs ≠ [] ∧ ∃ cur, w.heap[g.loc id]? = some (.cells cur t (0, 0)) ∧ cur.size = g.hw id ∧ g.hw id ≤ maxLen ∧ bs.length ≤ g.hw id ∧
      cur.toList.take bs.length = bs.map fun b => .int .u8 b.toNat
  | .row xs sz fz => g.obj id = true ∧ ¬ g.fix (g.loc id) ∧ g.pp (g.loc id) = (if fz then xs.length * sz else 0) ∧ ∃ cur e fr, w.heap[g.loc id]? = some (.cells cur e fr) ∧ xs.length ≤ g.hw id ∧ cur.size = g.hw id * sz ∧
      (∀ v ∈ cur, v.oneCell' = true) ∧ (∀ i, i < cur.size → ¬ (fr.1 ≤ i ∧ i < fr.2)) ∧ (∀ (i : Nat) (x : PV), xs[i]? = some x → x.cells.length = sz) ∧
      ∀ (i : Nat) (x : PV) (j : Nat) (c : PV), xs[i]? = some x → x.cells[j]? = some c → V g w m c (cur.getD (i * sz + j) undef)

structure R (S : List SObj) (w : World) (g : G) (base : Nat) (bd : Nat → Nat) : Prop where
  hbase : base ≤ S.length
  hbd : ∀ id, id < base → bd id ≤ base
  hfix : ∀ k, g.fix k → k < w.heap.size
  hpp : ∀ b, w.heap.size ≤ b → g.pp b = 0
  live : ∀ (id : Nat) (o : SObj), S[id]? = some o → Live w g (lim base bd S.length id) id o
  inj : ∀ (i j : Nat) (o p : SObj), S[i]? = some o → S[j]? = some p → o ≠ .dead → p ≠ .dead → g.loc i = g.loc j → i = j

theorem lim_le {S : List SObj} {w : World} {g : G} {base : Nat} {bd : Nat → Nat} (h : R S w g base bd) (id : Nat) : lim base bd S.length id ≤ S.length := by
  unfold lim
  split
  · rename_i hi
    exact Nat.le_trans (h.hbd id hi) h.hbase
  · exact Nat.le_refl _

theorem Evo.drawn {n : Nat} {g : G} {w w' : World} (hh : w'.heap = w.heap) (ho : w'.os = w.os) (ht : w'.tape = w.tape) (hp : w'.output = w.output) : Evo n g w g w' where
  pp _ := Nat.le_refl _
  cell b o _ := by simp [World.cell?, hh]
  obj _ _ := rfl
  loc _ _ _ := rfl
  tsz _ _ := rfl
  hw _ _ := Nat.le_refl _
  hwo _ _ _ := rfl
  tip id cap _ _ _ h := by simpa [TipC, World.frozen?, hh] using h
  size := by rw [hh]; exact Nat.le_refl _
  fix := rfl
  low k _ := by rw [hh]
  pplow _ _ := rfl
  os := ho
  tape := ht
  output := hp

theorem Live.evo {w w' : World} {g g' : G} {m id : Nat} {o : SObj} (e : Evo m g w g' w') (hob : g'.obj id = g.obj id) (hl : g'.loc id = g.loc id) (hhw : g'.hw id = g.hw id) (hts : g'.tsz id = g.tsz id)
    (hb : o ≠ .dead → (∀ hw sz, o ≠ .tip hw sz) → w'.heap[g.loc id]? = w.heap[g.loc id]? ∧ g'.pp (g.loc id) = g.pp (g.loc id)) (h : Live w g m id o) : Live w' g' m id o := by
  cases o with
  | cells cs =>
    obtain ⟨h1, h2, h3, cur, t, h4, h5, h7, h6⟩ := h
    obtain ⟨b1, b2⟩ := hb (by simp) (by simp)
    exact ⟨hob.trans h1, by rw [hl, e.fix]; exact h2, by rw [hl, b2]; exact h3, cur, t, by rw [hl, b1]; exact h4, h5, h7, fun j c hj => (h6 j c hj).evo e⟩
  | map es =>
    obtain ⟨h1, h2, h3, cur, t, h4, h5, h6⟩ := h
    obtain ⟨b1, b2⟩ := hb (by simp) (by simp)
    refine ⟨hob.trans h1, by rw [hl, e.fix]; exact h2, by rw [hl, b2]; exact h3, cur, t, by rw [hl, b1]; exact h4, h5, fun j c hj => ?_⟩
    obtain ⟨x, hx, hk, hv⟩ := h6 j c hj
    exact ⟨x, hx, hk.evo e, hv.evo e⟩
  | tip hw sz =>
    obtain ⟨h1, h2, h3, h4, h5⟩ := h
    exact ⟨hob.trans h1, hhw.trans h2, hts.trans h3, by rw [hl, e.fix]; exact h4, by rw [hl]; exact Nat.lt_of_lt_of_le h5 e.size⟩
  | dead => exact hob.trans h
  | bld t u b =>
    obtain ⟨h1, h2, h3, h4, h5⟩ := h
    obtain ⟨b1, b2⟩ := hb (by simp) (by simp)
    refine ⟨hob.trans h1, by rw [hl, e.fix]; exact h2, by rw [hl, b2]; exact h3, fun j n hj => ⟨(h4 j n hj).1, (e.obj j (h4 j n hj).1).trans (h4 j n hj).2⟩, ?_⟩
    have : bufVal g'.loc g'.hw b = bufVal g.loc g.hw b := by
      cases b with
      | none => rfl
      | some p =>
        obtain ⟨j, n⟩ := p
        obtain ⟨q1, q2⟩ := h4 j n rfl
        simp only [bufVal, e.loc j q1 (.inl q2), e.hwo j q1 q2]
    rw [hl, b1, this]; exact h5
  | buf bs t =>
    obtain ⟨h1, h2, h3, h0, cur, h4, h5, h6, h7, h8⟩ := h
    obtain ⟨b1, b2⟩ := hb (by simp) (by simp)
    exact ⟨hob.trans h1, by rw [hl, e.fix]; exact h2, by rw [hl, b2]; exact h3, h0, cur, by rw [hl, b1]; exact h4, by rw [hhw]; exact h5, by rw [hhw]; exact h6, by rw [hhw]; exact h7, h8⟩
  | row xs sz fz =>
    obtain ⟨h1, h2, h3, cur, t, fr, h4, h5, h6, h7, h8, h9, h10⟩ := h
    obtain ⟨b1, b2⟩ := hb (by simp) (by simp)
    exact ⟨hob.trans h1, by rw [hl, e.fix]; exact h2, by rw [hl, b2]; exact h3, cur, t, fr, by rw [hl, b1]; exact h4, by rw [hhw]; exact h5, by rw [hhw]; exact h6, h7, h8, h9, fun i x j c hi hj => (h10 i x j c hi hj).evo e⟩

theorem Live.mono {w : World} {g : G} {m m' id : Nat} {o : SObj} (hm : m ≤ m') (h : Live w g m id o) : Live w g m' id o := by
  cases o with
  | cells cs =>
    obtain ⟨h1, h2, h3, cur, t, h4, h5, h7, h6⟩ := h
    exact ⟨h1, h2, h3, cur, t, h4, h5, h7, fun j c hj => (h6 j c hj).mono hm⟩
  | map es =>
    obtain ⟨h1, h2, h3, cur, t, h4, h5, h6⟩ := h
    refine ⟨h1, h2, h3, cur, t, h4, h5, fun j c hj => ?_⟩
    obtain ⟨x, hx, hk, hv⟩ := h6 j c hj
    exact ⟨x, hx, hk.mono hm, hv.mono hm⟩
  | tip hw sz => exact h
  | dead => exact h
  | bld t u b => exact ⟨h.1, h.2.1, h.2.2.1, fun j n hj => ⟨Nat.lt_of_lt_of_le (h.2.2.2.1 j n hj).1 hm, (h.2.2.2.1 j n hj).2⟩, h.2.2.2.2⟩
  | buf bs t => exact h
  | row xs sz fz =>
    obtain ⟨h1, h2, h3, cur, t, fr, h4, h5, h6, h7, h8, h9, h10⟩ := h
    exact ⟨h1, h2, h3, cur, t, fr, h4, h5, h6, h7, h8, h9, fun i x j c hi hj => (h10 i x j c hi hj).mono hm⟩

theorem R.drawn {S : List SObj} {w w' : World} {g : G} {base : Nat} {bd : Nat → Nat} (h : R S w g base bd) (hh : w'.heap = w.heap) (ho : w'.os = w.os) (ht : w'.tape = w.tape) (hp : w'.output = w.output) :
    R S w' g base bd where
  hbase := h.hbase
  hbd := h.hbd
  hfix := by rw [hh]; exact h.hfix
  hpp b hb := h.hpp b (by rw [← hh]; exact hb)
  live id o hi := (h.live id o hi).evo (Evo.drawn hh ho ht hp) rfl rfl rfl rfl (fun _ _ => ⟨by rw [hh], rfl⟩)
  inj := h.inj

def G.new (g : G) (id b p hw sz : Nat) (ob : Bool) : G :=
  { fix := g.fix, pp := fun k => if k = b then p else g.pp k, loc := fun k => if k = id then b else g.loc k, hw := fun k => if k = id then hw else g.hw k,
    tsz := fun k => if k = id then sz else g.tsz k, obj := fun k => if k = id then ob else g.obj k }

theorem frozen?_of_heap {w w' : World} {b : Nat} (h : w'.heap[b]? = w.heap[b]?) (i : Nat) : w'.frozen? ⟨b, i, none⟩ = w.frozen? ⟨b, i, none⟩ := by
  simp [World.frozen?, h]

theorem cell?_of_heap {w w' : World} {b : Nat} (h : w'.heap[b]? = w.heap[b]?) (i : Nat) : w'.cell? ⟨b, i, none⟩ = w.cell? ⟨b, i, none⟩ := by
  simp [World.cell?, h]

theorem TipC.heap {w w' : World} {g g' : G} {id cap : Nat} (hl : g'.loc id = g.loc id) (hh : g'.hw id = g.hw id) (ht : g'.tsz id = g.tsz id) (hp : g'.pp (g.loc id) = g.pp (g.loc id))
    (hb : w'.heap[g.loc id]? = w.heap[g.loc id]?) (h : TipC g w id cap) : TipC g' w' id cap := by
  obtain ⟨cur, e, fr, h1, h2, h3, h4⟩ := h
  exact ⟨cur, e, fr, by rw [hl, hb]; exact h1, by rw [ht]; exact h2, fun i hi hj => by rw [hl, frozen?_of_heap hb]; exact h3 i (by rw [hh, ht] at hi; exact hi) hj, by rw [hl, hp, hh, ht]; exact h4⟩

theorem TipC.lt {w : World} {g : G} {id cap : Nat} (h : TipC g w id cap) : g.loc id < w.heap.size := by
  obtain ⟨cur, e, fr, h1, _⟩ := h
  exact (Array.getElem?_eq_some_iff.1 h1).1

theorem Evo.newBlock {n : Nat} {g : G} {w : World} (o : Obj) {id p hw sz : Nat} {ob : Bool} (hid : n ≤ id) (hpp : g.pp w.heap.size = 0) (hB : ∀ k, g.fix k → k < w.heap.size) :
    Evo n g w (g.new id w.heap.size p hw sz ob) (w.alloc o) where
  pp b := by simp only [G.new]; split <;> simp_all
  cell b o' ho := by
    have hb : b ≠ w.heap.size := by rintro rfl; omega
    exact World.cell?_alloc_old w o (a := ⟨b, o', none⟩) hb
  obj k hk := by simp only [G.new]; rw [if_neg (by omega)]
  loc k hk _ := by simp only [G.new]; rw [if_neg (by omega)]
  tsz k hk := by simp only [G.new]; rw [if_neg (by omega)]
  hw k hk := by simp only [G.new]; rw [if_neg (by omega)]; exact Nat.le_refl _
  hwo k hk _ := by simp only [G.new]; rw [if_neg (by omega)]
  tip k cap hk _ _ ht := by
    have hlt := ht.lt
    refine ht.heap (by simp only [G.new]; rw [if_neg (by omega)]) (by simp only [G.new]; rw [if_neg (by omega)]) (by simp only [G.new]; rw [if_neg (by omega)]) ?_ ?_
    · simp only [G.new]; rw [if_neg (by omega)]
    · exact Below.heap_alloc w o _ hlt
  size := by simp
  fix := rfl
  low k hk := Below.heap_alloc w o k (hB k hk)
  pplow k hk := by simp only [G.new]; rw [if_neg (by have := hB k hk; omega)]
  os := rfl
  tape := rfl
  output := rfl

theorem Live.loc_lt {w : World} {g : G} {m id : Nat} {o : SObj} (h : Live w g m id o) (hd : o ≠ .dead) : g.loc id < w.heap.size := by
  cases o with
  | cells cs => obtain ⟨_, _, _, cur, t, h4, _⟩ := h; exact (Array.getElem?_eq_some_iff.1 h4).1
  | map es => obtain ⟨_, _, _, cur, t, h4, _⟩ := h; exact (Array.getElem?_eq_some_iff.1 h4).1
  | tip hw sz => exact h.2.2.2.2
  | dead => exact absurd rfl hd
  | bld t u b => exact (Array.getElem?_eq_some_iff.1 h.2.2.2.2).1
  | buf bs t => obtain ⟨_, _, _, _, cur, h4, _⟩ := h; exact (Array.getElem?_eq_some_iff.1 h4).1
  | row xs sz fz => obtain ⟨_, _, _, cur, t, fr, h4, _⟩ := h; exact (Array.getElem?_eq_some_iff.1 h4).1

theorem R.newBlock {S : List SObj} {w : World} {g : G} {base : Nat} {bd : Nat → Nat} (h : R S w g base bd) (o : Obj) {p hw sz : Nat} {ob : Bool} (s : SObj)
    (hs : Live (w.alloc o) (g.new S.length w.heap.size p hw sz ob) (S.length + 1) S.length s) :
    R (S ++ [s]) (w.alloc o) (g.new S.length w.heap.size p hw sz ob) base bd := by
  have hpp := h.hpp w.heap.size (Nat.le_refl _)
  have hb := h.hbase
  have hgB := h.hfix
  have old : ∀ (id : Nat) (x : SObj), S[id]? = some x → id < S.length := fun id x hx => (List.getElem?_eq_some_iff.1 hx).1
  refine ⟨by simp; omega, h.hbd, fun k hk => by have := h.hfix k hk; simp; omega, ?_, ?_, ?_⟩
  · intro b hb'
    simp only [G.new, World.size_alloc] at hb' ⊢
    rw [if_neg (by omega)]
    exact h.hpp b (by omega)
  · intro id x hx
    rcases Nat.lt_or_ge id S.length with hi | hi
    · rw [List.getElem?_append_left hi] at hx
      have hl := h.live id x hx
      have hle : lim base bd S.length id ≤ lim base bd (S ++ [s]).length id := by
        unfold lim; split <;> simp
      refine Live.mono hle ?_
      refine hl.evo ((Evo.newBlock (n := S.length) o (Nat.le_refl _) hpp hgB).mono (lim_le h id)) ?_ ?_ ?_ ?_ ?_
      · simp only [G.new]; rw [if_neg (by omega)]
      · simp only [G.new]; rw [if_neg (by omega)]
      · simp only [G.new]; rw [if_neg (by omega)]
      · simp only [G.new]; rw [if_neg (by omega)]
      · intro hd _
        have hlt := hl.loc_lt hd
        refine ⟨Below.heap_alloc w o _ hlt, ?_⟩
        simp only [G.new]; rw [if_neg (by omega)]
    · have hid : id = S.length := by
        have := (List.getElem?_eq_some_iff.1 hx).1
        simp at this; omega
      subst hid
      have : x = s := by simpa using hx.symm
      subst this
      have : lim base bd (S ++ [x]).length S.length = S.length + 1 := by
        unfold lim; rw [if_neg (by omega)]; simp
      rw [this]
      exact hs
  · intro i j x y hx hy hxd hyd hloc
    have bnd : ∀ (id : Nat) (z : SObj), (S ++ [s])[id]? = some z → id < S.length ∧ S[id]? = some z ∨ id = S.length := by
      intro id z hz
      rcases Nat.lt_or_ge id S.length with hi | hi
      · rw [List.getElem?_append_left hi] at hz
        exact .inl ⟨hi, hz⟩
      · have := (List.getElem?_eq_some_iff.1 hz).1
        simp at this
        exact .inr (by omega)
    rcases bnd i x hx with ⟨hi, hxi⟩ | hi <;> rcases bnd j y hy with ⟨hj, hyj⟩ | hj
    · simp only [G.new] at hloc
      rw [if_neg (by omega), if_neg (by omega)] at hloc
      exact h.inj i j x y hxi hyj hxd hyd hloc
    · subst hj
      simp only [G.new] at hloc
      rw [if_neg (by omega), if_true] at hloc
      have := (h.live i x hxi).loc_lt hxd
      omega
    · subst hi
      simp only [G.new] at hloc
      rw [if_true, if_neg (by omega)] at hloc
      have := (h.live j y hyj).loc_lt hyd
      omega
    · omega

end Go.Pam
