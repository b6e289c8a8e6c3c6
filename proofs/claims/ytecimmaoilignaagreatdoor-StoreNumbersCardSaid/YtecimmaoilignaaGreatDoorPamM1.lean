/- The abstract machine and its soundness, part 1. -/
import Derived.Tactics
import Derived.LoopN
import Derived.Below
import Derived.Orders
import Derived.Laws.IdiomCopy
import Derived.Laws.Cells
import Derived.Laws.StructEq
import Derived.Laws.Strings
import Derived.Laws.Tables
import Derived.IntWalk
set_option linter.unusedVariables false
set_option linter.unusedSimpArgs false
namespace Go.Pam
inductive Tag where
 | none
 | full
 | tip (id : Nat)
 deriving DecidableEq
inductive PV where
 | poison
 | bool (b : Bool)
 | int (k : IntKind) (n : Int)
 | str (s : List UInt8)
 | nilp
 | ptr (id off : Nat)
 | iptr (cells : List PV) (off : Nat)
 | nils
 | lst (xs : List PV) (tag : Tag)
 | hsl (id off len : Nat)
 | emp
 | rsl (id len : Nat)
 | nilm
 | map (id : Nat)
 | nilf
 | fn (f : Fn) (first captured : List PV)
 | nili
 | ifc (t : TypeId) (v : PV)
 | agg (cells : List PV)
 | tup (vs : List PV)
instance : Inhabited PV := ⟨.poison⟩
def PV.cells : PV → List PV
 | .agg cs => cs
 | v => [v]
inductive SObj where
 | cells (cs : List PV)
 | map (es : List (PV × PV))
 | tip (hw sz : Nat)
 | dead
 | row (xs : List PV) (sz : Nat) (fz : Bool)
 | bld (t : TypeId) (u : Bool) (b : Option (Nat × Nat))
 | buf (bs : List UInt8) (t : TypeId)
 | iter (mp : Option Nat) (since : Nat) (seen : List Nat)
def bufVal (loc hw : Nat → Nat) : Option (Nat × Nat) → Value
 | none => .slice none 0 0
 | some (j, n) => .slice (some ⟨loc j, 0, none⟩) n (hw j)
structure G where
 pp : Nat → Nat
 loc : Nat → Nat
 hw : Nat → Nat
 tsz : Nat → Nat
 obj : Nat → Bool
 fix : Nat → Prop
def TipC (g : G) (w : World) (id cap : Nat) : Prop :=
 ∃ cur e fr, w.heap[g.loc id]? = some (.cells cur e fr) ∧ cur.size = cap * g.tsz id ∧
  (∀ i, g.hw id * g.tsz id ≤ i → i < cur.size → w.frozen? ⟨g.loc id, i, none⟩ = false) ∧ g.pp (g.loc id) = g.hw id * g.tsz id
def TagOk (g : G) (w : World) (n : Nat) (tag : Tag) (b o len cap sz : Nat) : Prop :=
 match tag with
 | .none => True
 | .full => len = cap
 | .tip id => id < n ∧ g.obj id = false ∧ len ≤ g.hw id ∧ (g.hw id = len → o = 0 ∧ b = g.loc id ∧ sz = g.tsz id ∧ TipC g w id cap)
inductive V (g : G) (w : World) (n : Nat) : PV → Value → Prop
 | poison (v : Value) : V g w n .poison v
 | bool (b : Bool) : V g w n (.bool b) (.bool b)
 | int (k : IntKind) (i : Int) : V g w n (.int k i) (.int k i)
 | str (s : ByteArray) : V g w n (.str s.data.toList) (.string s)
 | nilp : V g w n .nilp (.pointer none)
 | ptr (id off : Nat) (h : id < n) (ho : g.obj id = true) : V g w n (.ptr id off) (.pointer (some ⟨g.loc id, off, none⟩))
 | iptr (cells : List PV) (off b o : Nat) (u : Nat → Value)
   (h1 : ∀ (j : Nat) (c : PV), cells[j]? = some c → o + j < g.pp b)
   (h2 : ∀ (j : Nat) (c : PV), cells[j]? = some c → w.cell? ⟨b, o + j, none⟩ = some (u j))
   (h3 : ∀ (j : Nat) (c : PV), cells[j]? = some c → V g w n c (u j))
   (h4 : ∀ (j : Nat), j < cells.length → (u j).oneCell' = true) : V g w n (.iptr cells off) (.pointer (some ⟨b, o + off, none⟩))
 | nils : V g w n .nils (.slice none 0 0)
 | lst (xs : List PV) (tag : Tag) (b o cap sz : Nat) (u : Nat → Nat → Value) (hc : xs.length ≤ cap)
   (h1 : ∀ (i : Nat) (x : PV), xs[i]? = some x → x.cells.length = sz)
   (h2 : ∀ (i : Nat) (x : PV) (j : Nat) (c : PV), xs[i]? = some x → x.cells[j]? = some c → o + i * sz + j < g.pp b)
   (h3 : ∀ (i : Nat) (x : PV) (j : Nat) (c : PV), xs[i]? = some x → x.cells[j]? = some c → w.cell? ⟨b, o + i * sz + j, none⟩ = some (u i j))
   (h4 : ∀ (i : Nat) (x : PV) (j : Nat) (c : PV), xs[i]? = some x → x.cells[j]? = some c → V g w n c (u i j))
   (h5 : ∀ (i : Nat) (x : PV) (j : Nat), xs[i]? = some x → j < sz → (u i j).oneCell' = true)
   (ht : TagOk g w n tag b o xs.length cap sz) : V g w n (.lst xs tag) (.slice (some ⟨b, o, none⟩) xs.length cap)
 | lst0 (a : Addr) : V g w n (.lst [] .none) (.slice (some a) 0 0)
 | hsl (id off len cap : Nat) (h : id < n) (ho : g.obj id = true) (hc : len ≤ cap) : V g w n (.hsl id off len) (.slice (some ⟨g.loc id, off, none⟩) len cap)
 | emp (a : Addr) : V g w n .emp (.slice (some a) 0 0)
 | rsl (id len : Nat) (h : id < n) (ho : g.obj id = true) (hc : len ≤ g.hw id) : V g w n (.rsl id len) (.slice (some ⟨g.loc id, 0, none⟩) len (g.hw id))
 | nilm : V g w n .nilm (.map none)
 | map (id : Nat) (h : id < n) (ho : g.obj id = true) : V g w n (.map id) (.map (some (g.loc id)))
 | nilf : V g w n .nilf .nilFunc
 | fn (f : Fn) (as bs : List PV) (as' bs' : Array Value) (ha : as.length = as'.size) (hb : bs.length = bs'.size)
   (h1 : ∀ (i : Nat) (c : PV), as[i]? = some c → V g w n c (as'.getD i undef))
   (h2 : ∀ (i : Nat) (c : PV), bs[i]? = some c → V g w n c (bs'.getD i undef)) : V g w n (.fn f as bs) (.func f as' bs')
 | nili : V g w n .nili .nilIface
 | ifc (t : TypeId) (v : PV) (v' : Value) (h : V g w n v v') : V g w n (.ifc t v) (.iface t v')
 | agg (cs : List PV) (cs' : Array Value) (hl : cs.length = cs'.size)
   (h1 : ∀ (i : Nat) (c : PV), cs[i]? = some c → V g w n c (cs'.getD i undef))
   (h2 : ∀ v ∈ cs', v.oneCell' = true) : V g w n (.agg cs) (.agg cs')
 | tup (cs : List PV) (cs' : Array Value) (hl : cs.length = cs'.size)
   (h1 : ∀ (i : Nat) (c : PV), cs[i]? = some c → V g w n c (cs'.getD i undef)) : V g w n (.tup cs) (.tuple cs')
structure Evo (n : Nat) (g : G) (w : World) (g' : G) (w' : World) : Prop where
 pp : ∀ b, g.pp b ≤ g'.pp b
 cell : ∀ b o, o < g.pp b → w'.cell? ⟨b, o, none⟩ = w.cell? ⟨b, o, none⟩
 obj : ∀ id, id < n → g'.obj id = g.obj id
 loc : ∀ id, id < n → (g.obj id = true ∨ g'.hw id = g.hw id) → g'.loc id = g.loc id
 tsz : ∀ id, id < n → g'.tsz id = g.tsz id
 hw : ∀ id, id < n → g.hw id ≤ g'.hw id
 hwo : ∀ id, id < n → g.obj id = true → g'.hw id = g.hw id
 tip : ∀ id cap, id < n → g.obj id = false → g'.hw id = g.hw id → TipC g w id cap → TipC g' w' id cap
 size : w.heap.size ≤ w'.heap.size
 fix : g'.fix = g.fix
 low : ∀ k, g.fix k → w'.heap[k]? = w.heap[k]?
 pplow : ∀ k, g.fix k → g'.pp k = g.pp k
 os : w'.os = w.os
 tape : w'.tape = w.tape
 output : w'.output = w.output
theorem Evo.refl (n : Nat) (g : G) (w : World) : Evo n g w g w :=
 ⟨fun _ => Nat.le_refl _, fun _ _ _ => rfl, fun _ _ => rfl, fun _ _ _ => rfl, fun _ _ => rfl, fun _ _ => Nat.le_refl _, fun _ _ _ => rfl, fun _ _ _ _ _ h => h, Nat.le_refl _, rfl, fun _ _ => rfl, fun _ _ => rfl, rfl, rfl, rfl⟩
theorem Evo.mono {n m : Nat} {g g' : G} {w w' : World} (h : Evo n g w g' w') (hm : m ≤ n) : Evo m g w g' w' :=
 ⟨h.pp, h.cell, fun id hi => h.obj id (by omega), fun id hi => h.loc id (by omega), fun id hi => h.tsz id (by omega), fun id hi => h.hw id (by omega), fun id hi => h.hwo id (by omega), fun id c hi => h.tip id c (by omega), h.size, h.fix, h.low, h.pplow, h.os, h.tape, h.output⟩
theorem Evo.trans {n : Nat} {g g' g'' : G} {w w' w'' : World} (h : Evo n g w g' w') (k : Evo n g' w' g'' w'') : Evo n g w g'' w'' where
 pp b := Nat.le_trans (h.pp b) (k.pp b)
 cell b o ho := (k.cell b o (Nat.lt_of_lt_of_le ho (h.pp b))).trans (h.cell b o ho)
 obj id hi := (k.obj id hi).trans (h.obj id hi)
 loc id hi ho := by
  have h1 := h.hw id hi
  have h2 := k.hw id hi
  rcases ho with ho | ho
  ·exact (k.loc id hi (.inl ((h.obj id hi).trans ho))).trans (h.loc id hi (.inl ho))
  ·exact (k.loc id hi (.inr (by omega))).trans (h.loc id hi (.inr (by omega)))
 tsz id hi := (k.tsz id hi).trans (h.tsz id hi)
 hw id hi := Nat.le_trans (h.hw id hi) (k.hw id hi)
 hwo id hi ho := (k.hwo id hi ((h.obj id hi).trans ho)).trans (h.hwo id hi ho)
 tip id cap hi ho he ht := by
  have h1 := h.hw id hi
  have h2 := k.hw id hi
  exact k.tip id cap hi ((h.obj id hi).trans ho) (by omega) (h.tip id cap hi ho (by omega) ht)
 size := Nat.le_trans h.size k.size
 fix := k.fix.trans h.fix
 low i hi := (k.low i (by rw [h.fix]; exact hi)).trans (h.low i hi)
 pplow i hi := (k.pplow i (by rw [h.fix]; exact hi)).trans (h.pplow i hi)
 os := k.os.trans h.os
 tape := k.tape.trans h.tape
 output := k.output.trans h.output
theorem TagOk.evo {n : Nat} {g g' : G} {w w' : World} (e : Evo n g w g' w') {tag : Tag} {b o len cap sz : Nat}
  (h : TagOk g w n tag b o len cap sz) : TagOk g' w' n tag b o len cap sz := by
 cases tag with
 | none => trivial
 | full => exact h
 | tip id =>
  obtain ⟨hi, hob, hle, ht⟩ := h
  have hh := e.hw id hi
  refine ⟨hi, (e.obj id hi).trans hob, by omega, fun hl => ?_⟩
  obtain ⟨h1, h2, h3, h4⟩ := ht (by omega)
  have he : g'.hw id = g.hw id := by omega
  exact ⟨h1, h2.trans (e.loc id hi (.inr he)).symm, h3.trans (e.tsz id hi).symm, e.tip id cap hi hob he h4⟩
theorem TagOk.mono {n m : Nat} {g : G} {w : World} (hm : n ≤ m) {tag : Tag} {b o len cap sz : Nat}
  (h : TagOk g w n tag b o len cap sz) : TagOk g w m tag b o len cap sz := by
 cases tag with
 | none => trivial
 | full => exact h
 | tip id => exact ⟨Nat.lt_of_lt_of_le h.1 hm, h.2⟩
theorem V.mono {n m : Nat} {g : G} {w : World} (hm : n ≤ m) {x : PV} {v : Value} (h : V g w n x v) : V g w m x v := by
 induction h with
 | poison v => exact .poison v
 | bool b => exact .bool b
 | int k i => exact .int k i
 | str s => exact .str s
 | nilp => exact .nilp
 | ptr id off h ho => exact .ptr id off (by omega) ho
 | iptr cells off b o u h1 h2 _ h4 ih => exact .iptr cells off b o u h1 h2 ih h4
 | nils => exact .nils
 | lst xs tag b o cap sz u hc h1 h2 h3 _ h5 ht ih => exact .lst xs tag b o cap sz u hc h1 h2 h3 ih h5 (ht.mono hm)
 | lst0 a => exact .lst0 a
 | hsl id off len cap h ho hc => exact .hsl id off len cap (by omega) ho hc
 | emp a => exact .emp a
 | rsl id len h ho hc => exact .rsl id len (by omega) ho hc
 | nilm => exact .nilm
 | map id h ho => exact .map id (by omega) ho
 | nilf => exact .nilf
 | fn f as bs as' bs' ha hb _ _ ih1 ih2 => exact .fn f as bs as' bs' ha hb ih1 ih2
 | nili => exact .nili
 | ifc t v v' _ ih => exact .ifc t v v' ih
 | agg cs cs' hl _ h2 ih => exact .agg cs cs' hl ih h2
 | tup cs cs' hl _ ih => exact .tup cs cs' hl ih
theorem V.evo {n : Nat} {g g' : G} {w w' : World} (e : Evo n g w g' w') {x : PV} {v : Value} (h : V g w n x v) : V g' w' n x v := by
 induction h with
 | poison v => exact .poison v
 | bool b => exact .bool b
 | int k i => exact .int k i
 | str s => exact .str s
 | nilp => exact .nilp
 | ptr id off h ho => rw [← e.loc id h (.inl ho)]; exact .ptr id off h ((e.obj id h).trans ho)
 | iptr cells off b o u h1 h2 _ h4 ih =>
  exact .iptr cells off b o u (fun j c hj => Nat.lt_of_lt_of_le (h1 j c hj) (e.pp b)) (fun j c hj => (e.cell b _ (h1 j c hj)).trans (h2 j c hj)) ih h4
 | nils => exact .nils
 | lst xs tag b o cap sz u hc h1 h2 h3 _ h5 ht ih =>
  exact .lst xs tag b o cap sz u hc h1 (fun i x j c hi hj => Nat.lt_of_lt_of_le (h2 i x j c hi hj) (e.pp b))
   (fun i x j c hi hj => (e.cell b _ (h2 i x j c hi hj)).trans (h3 i x j c hi hj)) ih h5 (ht.evo e)
 | lst0 a => exact .lst0 a
 | hsl id off len cap h ho hc => rw [← e.loc id h (.inl ho)]; exact .hsl id off len cap h ((e.obj id h).trans ho) hc
 | emp a => exact .emp a
 | rsl id len h ho hc => rw [← e.loc id h (.inl ho), ← e.hwo id h ho]; exact .rsl id len h ((e.obj id h).trans ho) (by rw [e.hwo id h ho]; exact hc)
 | nilm => exact .nilm
 | map id h ho => rw [← e.loc id h (.inl ho)]; exact .map id h ((e.obj id h).trans ho)
 | nilf => exact .nilf
 | fn f as bs as' bs' ha hb _ _ ih1 ih2 => exact .fn f as bs as' bs' ha hb ih1 ih2
 | nili => exact .nili
 | ifc t v v' _ ih => exact .ifc t v v' ih
 | agg cs cs' hl _ h2 ih => exact .agg cs cs' hl ih h2
 | tup cs cs' hl _ ih => exact .tup cs cs' hl ih
end Go.Pam
namespace Go.Pam
open Go.RowKit
def lim (base : Nat) (bd : Nat → Nat) (n id : Nat) : Nat := if id < base then bd id else n
def Live (w : World) (g : G) (m id : Nat) : SObj → Prop
 | .cells cs => g.obj id = true ∧ ¬ g.fix (g.loc id) ∧ g.pp (g.loc id) = 0 ∧ ∃ cur e, w.heap[g.loc id]? = some (.cells cur e (0, 0)) ∧ cur.size = cs.length ∧
   (∀ v ∈ cur, v.oneCell' = true) ∧ ∀ (j : Nat) (c : PV), cs[j]? = some c → V g w m c (cur.getD j undef)
 | .map es => g.obj id = true ∧ ¬ g.fix (g.loc id) ∧ g.pp (g.loc id) = 0 ∧ ∃ es', w.heap[g.loc id]? = some (.map es' es.length) ∧ es'.size = es.length ∧
   ∀ (j : Nat) (kv : PV × PV), es[j]? = some kv → ∃ e, es'[j]? = some e ∧ e.born = j ∧ V g w m kv.1 e.key ∧ V g w m kv.2 e.val
 | .tip hw sz => g.obj id = false ∧ g.hw id = hw ∧ g.tsz id = sz ∧ ¬ g.fix (g.loc id) ∧ g.loc id < w.heap.size
 | .dead => g.obj id = true
 | .bld t u b => g.obj id = true ∧ ¬ g.fix (g.loc id) ∧ g.pp (g.loc id) = 0 ∧ (∀ j n, b = some (j, n) → j < m ∧ g.obj j = true) ∧
   w.heap[g.loc id]? = some (.cells #[.pointer (if u then some ⟨g.loc id, 0, none⟩ else none), bufVal g.loc g.hw b] t (0, 0))
 | .buf bs t => g.obj id = true ∧ ¬ g.fix (g.loc id) ∧ g.pp (g.loc id) = 0 ∧ bs ≠ [] ∧ ∃ cur, w.heap[g.loc id]? = some (.cells cur t (0, 0)) ∧ cur.size = g.hw id ∧ g.hw id ≤ maxLen ∧ bs.length ≤ g.hw id ∧
   cur.toList.take bs.length = bs.map fun b => .int .u8 b.toNat
 | .iter mp since seen => g.obj id = true ∧ ¬ g.fix (g.loc id) ∧ g.pp (g.loc id) = 0 ∧ (∀ j, mp = some j → j < m ∧ g.obj j = true) ∧
   w.heap[g.loc id]? = some (.mapIter (mp.map g.loc) since seen.toArray since)
 | .row xs sz fz => g.obj id = true ∧ ¬ g.fix (g.loc id) ∧ g.pp (g.loc id) = (if fz then xs.length * sz else 0) ∧ ∃ cur e fr, w.heap[g.loc id]? = some (.cells cur e fr) ∧ xs.length ≤ g.hw id ∧ cur.size = g.hw id * sz ∧
   (∀ v ∈ cur, v.oneCell' = true) ∧ (∀ i, i < cur.size → ¬ (fr.1 ≤ i ∧ i < fr.2)) ∧ (∀ (i : Nat) (x : PV), xs[i]? = some x → x.cells.length = sz) ∧
   ∀ (i : Nat) (x : PV) (j : Nat) (c : PV), xs[i]? = some x → x.cells[j]? = some c → V g w m c (cur.getD (i * sz + j) undef)
structure R (S : List SObj) (w : World) (g : G) (base : Nat) (bd : Nat → Nat) : Prop where
 hbase : base ≤ S.length
 hbd : ∀ id, id < base → bd id ≤ base
 hfix : ∀ k, g.fix k → k < w.heap.size
 hpp : ∀ b, w.heap.size ≤ b → g.pp b = 0
 live : ∀ (id : Nat) (o : SObj), S[id]? = some o → Live w g (lim base bd S.length id) id o
 inj : ∀ (i j : Nat) (o p : SObj), S[i]? = some o → S[j]? = some p → o ≠ .dead → p ≠ .dead → g.loc i = g.loc j → i = j
theorem lim_le {S : List SObj} {w : World} {g : G} {base : Nat} {bd : Nat → Nat} (h : R S w g base bd) (id : Nat) : lim base bd S.length id ≤ S.length := by
 unfold lim
 split
 ·rename_i hi
  exact Nat.le_trans (h.hbd id hi) h.hbase
 ·exact Nat.le_refl _
theorem Evo.drawn {n : Nat} {g : G} {w w' : World} (hh : w'.heap = w.heap) (ho : w'.os = w.os) (ht : w'.tape = w.tape) (hp : w'.output = w.output) : Evo n g w g w' where
 pp _ := Nat.le_refl _
 cell b o _ := by simp [World.cell?, hh]
 obj _ _ := rfl
 loc _ _ _ := rfl
 tsz _ _ := rfl
 hw _ _ := Nat.le_refl _
 hwo _ _ _ := rfl
 tip id cap _ _ _ h := by simpa [TipC, World.frozen?, hh] using h
 size := by rw [hh]; exact Nat.le_refl _
 fix := rfl
 low k _ := by rw [hh]
 pplow _ _ := rfl
 os := ho
 tape := ht
 output := hp
theorem Live.evo {w w' : World} {g g' : G} {m id : Nat} {o : SObj} (e : Evo m g w g' w') (hob : g'.obj id = g.obj id) (hl : g'.loc id = g.loc id) (hhw : g'.hw id = g.hw id) (hts : g'.tsz id = g.tsz id)
  (hb : o ≠ .dead → (∀ hw sz, o ≠ .tip hw sz) → w'.heap[g.loc id]? = w.heap[g.loc id]? ∧ g'.pp (g.loc id) = g.pp (g.loc id)) (h : Live w g m id o) : Live w' g' m id o := by
 cases o with
 | cells cs =>
  obtain ⟨h1, h2, h3, cur, t, h4, h5, h7, h6⟩ := h
  obtain ⟨b1, b2⟩ := hb (by simp) (by simp)
  exact ⟨hob.trans h1, by rw [hl, e.fix]; exact h2, by rw [hl, b2]; exact h3, cur, t, by rw [hl, b1]; exact h4, h5, h7, fun j c hj => (h6 j c hj).evo e⟩
 | map es =>
  obtain ⟨h1, h2, h3, cur, h4, h5, h6⟩ := h
  obtain ⟨b1, b2⟩ := hb (by simp) (by simp)
  refine ⟨hob.trans h1, by rw [hl, e.fix]; exact h2, by rw [hl, b2]; exact h3, cur, by rw [hl, b1]; exact h4, h5, fun j c hj => ?_⟩
  obtain ⟨x, hx, hn, hk, hv⟩ := h6 j c hj
  exact ⟨x, hx, hn, hk.evo e, hv.evo e⟩
 | tip hw sz =>
  obtain ⟨h1, h2, h3, h4, h5⟩ := h
  exact ⟨hob.trans h1, hhw.trans h2, hts.trans h3, by rw [hl, e.fix]; exact h4, by rw [hl]; exact Nat.lt_of_lt_of_le h5 e.size⟩
 | dead => exact hob.trans h
 | bld t u b =>
  obtain ⟨h1, h2, h3, h4, h5⟩ := h
  obtain ⟨b1, b2⟩ := hb (by simp) (by simp)
  refine ⟨hob.trans h1, by rw [hl, e.fix]; exact h2, by rw [hl, b2]; exact h3, fun j n hj => ⟨(h4 j n hj).1, (e.obj j (h4 j n hj).1).trans (h4 j n hj).2⟩, ?_⟩
  have : bufVal g'.loc g'.hw b = bufVal g.loc g.hw b := by
   cases b with
   | none => rfl
   | some p =>
    obtain ⟨j, n⟩ := p
    obtain ⟨q1, q2⟩ := h4 j n rfl
    simp only [bufVal, e.loc j q1 (.inl q2), e.hwo j q1 q2]
  rw [hl, b1, this]; exact h5
 | iter mp since seen =>
  obtain ⟨h1, h2, h3, h4, h6⟩ := h
  obtain ⟨b1, b2⟩ := hb (by simp) (by simp)
  refine ⟨hob.trans h1, by rw [hl, e.fix]; exact h2, by rw [hl, b2]; exact h3, fun j hj => ⟨(h4 j hj).1, (e.obj j (h4 j hj).1).trans (h4 j hj).2⟩, ?_⟩
  have : mp.map g'.loc = mp.map g.loc := by
   cases mp with
   | none => rfl
   | some j =>
    obtain ⟨q1, q2⟩ := h4 j rfl
    simp only [Option.map_some, e.loc j q1 (.inl q2)]
  rw [hl, b1, this]; exact h6
 | buf bs t =>
  obtain ⟨h1, h2, h3, h0, cur, h4, h5, h6, h7, h8⟩ := h
  obtain ⟨b1, b2⟩ := hb (by simp) (by simp)
  exact ⟨hob.trans h1, by rw [hl, e.fix]; exact h2, by rw [hl, b2]; exact h3, h0, cur, by rw [hl, b1]; exact h4, by rw [hhw]; exact h5, by rw [hhw]; exact h6, by rw [hhw]; exact h7, h8⟩
 | row xs sz fz =>
  obtain ⟨h1, h2, h3, cur, t, fr, h4, h5, h6, h7, h8, h9, h10⟩ := h
  obtain ⟨b1, b2⟩ := hb (by simp) (by simp)
  exact ⟨hob.trans h1, by rw [hl, e.fix]; exact h2, by rw [hl, b2]; exact h3, cur, t, fr, by rw [hl, b1]; exact h4, by rw [hhw]; exact h5, by rw [hhw]; exact h6, h7, h8, h9, fun i x j c hi hj => (h10 i x j c hi hj).evo e⟩
theorem Live.mono {w : World} {g : G} {m m' id : Nat} {o : SObj} (hm : m ≤ m') (h : Live w g m id o) : Live w g m' id o := by
 cases o with
 | cells cs =>
  obtain ⟨h1, h2, h3, cur, t, h4, h5, h7, h6⟩ := h
  exact ⟨h1, h2, h3, cur, t, h4, h5, h7, fun j c hj => (h6 j c hj).mono hm⟩
 | map es =>
  obtain ⟨h1, h2, h3, cur, h4, h5, h6⟩ := h
  refine ⟨h1, h2, h3, cur, h4, h5, fun j c hj => ?_⟩
  obtain ⟨x, hx, hn, hk, hv⟩ := h6 j c hj
  exact ⟨x, hx, hn, hk.mono hm, hv.mono hm⟩
 | tip hw sz => exact h
 | dead => exact h
 | bld t u b => exact ⟨h.1, h.2.1, h.2.2.1, fun j n hj => ⟨Nat.lt_of_lt_of_le (h.2.2.2.1 j n hj).1 hm, (h.2.2.2.1 j n hj).2⟩, h.2.2.2.2⟩
 | iter mp since seen => exact ⟨h.1, h.2.1, h.2.2.1, fun j hj => ⟨Nat.lt_of_lt_of_le (h.2.2.2.1 j hj).1 hm, (h.2.2.2.1 j hj).2⟩, h.2.2.2.2⟩
 | buf bs t => exact h
 | row xs sz fz =>
  obtain ⟨h1, h2, h3, cur, t, fr, h4, h5, h6, h7, h8, h9, h10⟩ := h
  exact ⟨h1, h2, h3, cur, t, fr, h4, h5, h6, h7, h8, h9, fun i x j c hi hj => (h10 i x j c hi hj).mono hm⟩
theorem R.drawn {S : List SObj} {w w' : World} {g : G} {base : Nat} {bd : Nat → Nat} (h : R S w g base bd) (hh : w'.heap = w.heap) (ho : w'.os = w.os) (ht : w'.tape = w.tape) (hp : w'.output = w.output) :
  R S w' g base bd where
 hbase := h.hbase
 hbd := h.hbd
 hfix := by rw [hh]; exact h.hfix
 hpp b hb := h.hpp b (by rw [← hh]; exact hb)
 live id o hi := (h.live id o hi).evo (Evo.drawn hh ho ht hp) rfl rfl rfl rfl (fun _ _ => ⟨by rw [hh], rfl⟩)
 inj := h.inj
def G.new (g : G) (id b p hw sz : Nat) (ob : Bool) : G :=
 { fix := g.fix, pp := fun k => if k = b then p else g.pp k, loc := fun k => if k = id then b else g.loc k, hw := fun k => if k = id then hw else g.hw k, tsz := fun k => if k = id then sz else g.tsz k, obj := fun k => if k = id then ob else g.obj k }
theorem frozen?_of_heap {w w' : World} {b : Nat} (h : w'.heap[b]? = w.heap[b]?) (i : Nat) : w'.frozen? ⟨b, i, none⟩ = w.frozen? ⟨b, i, none⟩ := by
 simp [World.frozen?, h]
theorem cell?_of_heap {w w' : World} {b : Nat} (h : w'.heap[b]? = w.heap[b]?) (i : Nat) : w'.cell? ⟨b, i, none⟩ = w.cell? ⟨b, i, none⟩ := by
 simp [World.cell?, h]
theorem TipC.heap {w w' : World} {g g' : G} {id cap : Nat} (hl : g'.loc id = g.loc id) (hh : g'.hw id = g.hw id) (ht : g'.tsz id = g.tsz id) (hp : g'.pp (g.loc id) = g.pp (g.loc id))
  (hb : w'.heap[g.loc id]? = w.heap[g.loc id]?) (h : TipC g w id cap) : TipC g' w' id cap := by
 obtain ⟨cur, e, fr, h1, h2, h3, h4⟩ := h
 exact ⟨cur, e, fr, by rw [hl, hb]; exact h1, by rw [ht]; exact h2, fun i hi hj => by rw [hl, frozen?_of_heap hb]; exact h3 i (by rw [hh, ht] at hi; exact hi) hj, by rw [hl, hp, hh, ht]; exact h4⟩
theorem TipC.lt {w : World} {g : G} {id cap : Nat} (h : TipC g w id cap) : g.loc id < w.heap.size := by
 obtain ⟨cur, e, fr, h1, _⟩ := h
 exact (Array.getElem?_eq_some_iff.1 h1).1
theorem Evo.newBlock {n : Nat} {g : G} {w : World} (o : Obj) {id p hw sz : Nat} {ob : Bool} (hid : n ≤ id) (hpp : g.pp w.heap.size = 0) (hB : ∀ k, g.fix k → k < w.heap.size) :
  Evo n g w (g.new id w.heap.size p hw sz ob) (w.alloc o) where
 pp b := by simp only [G.new]; split <;> simp_all
 cell b o' ho := by
  have hb : b ≠ w.heap.size := by rintro rfl; omega
  exact World.cell?_alloc_old w o (a := ⟨b, o', none⟩) hb
 obj k hk := by simp only [G.new]; rw [if_neg (by omega)]
 loc k hk _ := by simp only [G.new]; rw [if_neg (by omega)]
 tsz k hk := by simp only [G.new]; rw [if_neg (by omega)]
 hw k hk := by simp only [G.new]; rw [if_neg (by omega)]; exact Nat.le_refl _
 hwo k hk _ := by simp only [G.new]; rw [if_neg (by omega)]
 tip k cap hk _ _ ht := by
  have hlt := ht.lt
  refine ht.heap (by simp only [G.new]; rw [if_neg (by omega)]) (by simp only [G.new]; rw [if_neg (by omega)]) (by simp only [G.new]; rw [if_neg (by omega)]) ?_ ?_
  ·simp only [G.new]; rw [if_neg (by omega)]
  ·exact Below.heap_alloc w o _ hlt
 size := by simp
 fix := rfl
 low k hk := Below.heap_alloc w o k (hB k hk)
 pplow k hk := by simp only [G.new]; rw [if_neg (by have := hB k hk; omega)]
 os := rfl
 tape := rfl
 output := rfl
theorem Live.loc_lt {w : World} {g : G} {m id : Nat} {o : SObj} (h : Live w g m id o) (hd : o ≠ .dead) : g.loc id < w.heap.size := by
 cases o with
 | cells cs => obtain ⟨_, _, _, cur, t, h4, _⟩ := h; exact (Array.getElem?_eq_some_iff.1 h4).1
 | map es => obtain ⟨_, _, _, cur, h4, _⟩ := h; exact (Array.getElem?_eq_some_iff.1 h4).1
 | tip hw sz => exact h.2.2.2.2
 | dead => exact absurd rfl hd
 | bld t u b => exact (Array.getElem?_eq_some_iff.1 h.2.2.2.2).1
 | iter mp since seen => obtain ⟨_, _, _, _, h4⟩ := h; exact (Array.getElem?_eq_some_iff.1 h4).1
 | buf bs t => obtain ⟨_, _, _, _, cur, h4, _⟩ := h; exact (Array.getElem?_eq_some_iff.1 h4).1
 | row xs sz fz => obtain ⟨_, _, _, cur, t, fr, h4, _⟩ := h; exact (Array.getElem?_eq_some_iff.1 h4).1
theorem R.newBlock {S : List SObj} {w : World} {g : G} {base : Nat} {bd : Nat → Nat} (h : R S w g base bd) (o : Obj) {p hw sz : Nat} {ob : Bool} (s : SObj)
  (hs : Live (w.alloc o) (g.new S.length w.heap.size p hw sz ob) (S.length + 1) S.length s) :
  R (S ++ [s]) (w.alloc o) (g.new S.length w.heap.size p hw sz ob) base bd := by
 have hpp := h.hpp w.heap.size (Nat.le_refl _)
 have hb := h.hbase
 have hgB := h.hfix
 have old : ∀ (id : Nat) (x : SObj), S[id]? = some x → id < S.length := fun id x hx => (List.getElem?_eq_some_iff.1 hx).1
 refine ⟨by simp; omega, h.hbd, fun k hk => by have := h.hfix k hk; simp; omega, ?_, ?_, ?_⟩
 ·intro b hb'
  simp only [G.new, World.size_alloc] at hb' ⊢
  rw [if_neg (by omega)]
  exact h.hpp b (by omega)
 ·intro id x hx
  rcases Nat.lt_or_ge id S.length with hi | hi
  ·rw [List.getElem?_append_left hi] at hx
   have hl := h.live id x hx
   have hle : lim base bd S.length id ≤ lim base bd (S ++ [s]).length id := by
    unfold lim; split <;> simp
   refine Live.mono hle ?_
   refine hl.evo ((Evo.newBlock (n := S.length) o (Nat.le_refl _) hpp hgB).mono (lim_le h id)) ?_ ?_ ?_ ?_ ?_
   ·simp only [G.new]; rw [if_neg (by omega)]
   ·simp only [G.new]; rw [if_neg (by omega)]
   ·simp only [G.new]; rw [if_neg (by omega)]
   ·simp only [G.new]; rw [if_neg (by omega)]
   ·intro hd _
    have hlt := hl.loc_lt hd
    refine ⟨Below.heap_alloc w o _ hlt, ?_⟩
    simp only [G.new]; rw [if_neg (by omega)]
  ·have hid : id = S.length := by
    have := (List.getElem?_eq_some_iff.1 hx).1
    simp at this; omega
   subst hid
   have : x = s := by simpa using hx.symm
   subst this
   have : lim base bd (S ++ [x]).length S.length = S.length + 1 := by
    unfold lim; rw [if_neg (by omega)]; simp
   rw [this]
   exact hs
 ·intro i j x y hx hy hxd hyd hloc
  have bnd : ∀ (id : Nat) (z : SObj), (S ++ [s])[id]? = some z → id < S.length ∧ S[id]? = some z ∨ id = S.length := by
   intro id z hz
   rcases Nat.lt_or_ge id S.length with hi | hi
   ·rw [List.getElem?_append_left hi] at hz
    exact .inl ⟨hi, hz⟩
   ·have := (List.getElem?_eq_some_iff.1 hz).1
    simp at this
    exact .inr (by omega)
  rcases bnd i x hx with ⟨hi, hxi⟩ | hi <;> rcases bnd j y hy with ⟨hj, hyj⟩ | hj
  ·simp only [G.new] at hloc
   rw [if_neg (by omega), if_neg (by omega)] at hloc
   exact h.inj i j x y hxi hyj hxd hyd hloc
  ·subst hj
   simp only [G.new] at hloc
   rw [if_neg (by omega), if_true] at hloc
   have := (h.live i x hxi).loc_lt hxd
   omega
  ·subst hi
   simp only [G.new] at hloc
   rw [if_true, if_neg (by omega)] at hloc
   have := (h.live j y hyj).loc_lt hyd
   omega
  ·omega
end Go.Pam
namespace Go.Pam
open Go.RowKit
theorem Evo.write {n : Nat} {g : G} {w w' : World} {b : Nat} {cur cur' : Array Value} {e : TypeId} {fr : Nat × Nat}
  (h0 : w.heap[b]? = some (.cells cur e fr)) (h1 : w'.heap[b]? = some (.cells cur' e fr)) (hsz : cur'.size = cur.size)
  (hoth : ∀ k, k ≠ b → w'.heap[k]? = w.heap[k]?) (hsame : ∀ i, i < g.pp b → cur'[i]? = cur[i]?) (hB : ¬ g.fix b)
  (hs : w.heap.size = w'.heap.size) (ho : w'.os = w.os) (ht : w'.tape = w.tape) (hp : w'.output = w.output) : Evo n g w g w' where
 pp _ := Nat.le_refl _
 cell k o hk := by
  by_cases hb : k = b
  ·subst hb
   simp [World.cell?, h0, h1, hsame o hk]
  ·exact cell?_of_heap (hoth k hb) o
 obj _ _ := rfl
 loc _ _ _ := rfl
 tsz _ _ := rfl
 hw _ _ := Nat.le_refl _
 hwo _ _ _ := rfl
 tip id cap _ _ _ h := by
  by_cases hb : g.loc id = b
  ·obtain ⟨c, e', fr', h2, h3, h4, h5⟩ := h
   rw [hb] at h2 h4
   rw [h0] at h2
   injection h2 with h2
   injection h2 with h2a h2b h2c
   subst h2a; subst h2b; subst h2c
   refine ⟨cur', e, fr, by rw [hb]; exact h1, by omega, fun i hi hj => ?_, h5⟩
   have := h4 i hi (by omega)
   rw [hb]
   simpa [World.frozen?, h0, h1] using this
  ·exact h.heap rfl rfl rfl rfl (hoth _ hb)
 size := by omega
 fix := rfl
 low k hk := hoth k (by rintro rfl; exact hB hk)
 pplow _ _ := rfl
 os := ho
 tape := ht
 output := hp
theorem alloc_new (w : World) (o : Obj) : (w.alloc o).heap[w.heap.size]? = some o := by
 show (w.heap.push o)[w.heap.size]? = some o
 simp
theorem setCell_block {w : World} {b i : Nat} {cur : Array Value} {e : TypeId} {fr : Nat × Nat} (h0 : w.heap[b]? = some (.cells cur e fr)) (v : Value) :
  (w.setCell ⟨b, i, none⟩ v).heap[b]? = some (.cells (cur.setIfInBounds i v) e fr) := by
 obtain ⟨hb, he⟩ := Array.getElem?_eq_some_iff.1 h0
 simp [World.setCell, Array.getElem?_modify, h0]
theorem setCell_other {w : World} {b i : Nat} (v : Value) {k : Nat} (hk : k ≠ b) : (w.setCell ⟨b, i, none⟩ v).heap[k]? = w.heap[k]? :=
 Below.heap_setCell w ⟨b, i, none⟩ v k hk
theorem setCells_block (b : Nat) (e : TypeId) (fr : Nat × Nat) : ∀ (vs : List Value) (o : Nat) (w : World) (cur : Array Value), w.heap[b]? = some (.cells cur e fr) → o + vs.length ≤ cur.size →
  ∃ cur', (w.setCells b o vs).heap[b]? = some (.cells cur' e fr) ∧ cur'.size = cur.size ∧ (∀ i, i < o ∨ o + vs.length ≤ i → cur'[i]? = cur[i]?) ∧ (∀ (j : Nat) (v : Value), vs[j]? = some v → cur'[o + j]? = some v) ∧
   (∀ k, k ≠ b → (w.setCells b o vs).heap[k]? = w.heap[k]?) ∧ (w.setCells b o vs).heap.size = w.heap.size ∧ (w.setCells b o vs).os = w.os ∧ (w.setCells b o vs).tape = w.tape ∧ (w.setCells b o vs).output = w.output
 | [], o, w, cur, h, _ => ⟨cur, h, rfl, fun _ _ => rfl, fun j v hj => by simp at hj, fun _ _ => rfl, rfl, rfl, rfl, rfl⟩
 | v :: vs, o, w, cur, h, hl => by
  simp only [List.length_cons] at hl
  obtain ⟨cur', h1, h2, h3, h4, h5, h6, h7, h8, h9⟩ := setCells_block b e fr vs (o + 1) (w.setCell ⟨b, o, none⟩ v) _ (setCell_block h v) (by simp; omega)
  refine ⟨cur', h1, by simpa using h2, ?_, ?_, ?_, ?_, h7.trans rfl, h8.trans rfl, h9.trans rfl⟩
  ·intro i hi
   rw [h3 i (by simp only [List.length_cons] at hi; omega)]
   rw [Array.getElem?_setIfInBounds_ne (by simp only [List.length_cons] at hi; omega)]
  ·intro j x hx
   cases j with
   | zero =>
    have : v = x := by simpa using hx
    subst this
    rw [Nat.add_zero, h3 o (by omega)]
    rw [Array.getElem?_setIfInBounds_self]
    rw [if_pos (by omega)]
   | succ j =>
    have := h4 j x (by simpa using hx)
    rw [show o + (j + 1) = o + 1 + j by omega]
    exact this
  ·intro k hk
   exact (h5 k hk).trans (setCell_other v hk)
  ·exact h6.trans (by simp)
section
variable {S : List SObj} {w w' : World} {g : G} {base : Nat} {bd : Nat → Nat}
theorem R.lt (_h : R S w g base bd) {id : Nat} {o : SObj} (hs : S[id]? = some o) : id < S.length := (List.getElem?_eq_some_iff.1 hs).1
theorem R.setCell (h : R S w g base bd) {id : Nat} {cs : List PV} (hs : S[id]? = some (.cells cs)) {j : Nat} (hj : j < cs.length) {c : PV} {v : Value}
  (hv : V g w (lim base bd S.length id) c v) (hone : v.oneCell' = true) (n : Nat) :
  R (S.set id (.cells (cs.set j c))) (w.setCell ⟨g.loc id, j, none⟩ v) g base bd ∧ Evo n g w g (w.setCell ⟨g.loc id, j, none⟩ v) := by
 obtain ⟨l1, l2, l3, cur, t, l4, l5, l7, l6⟩ := h.live id _ hs
 have hblk := setCell_block (i := j) l4 v
 have evo : ∀ m, Evo m g w g (w.setCell ⟨g.loc id, j, none⟩ v) := fun m =>
  Evo.write l4 hblk (by simp) (fun k hk => setCell_other v hk) (fun i hi => by omega) l2 (by simp) rfl rfl rfl
 refine ⟨⟨by simpa using h.hbase, h.hbd, fun k hk => by simpa using h.hfix k hk, fun b hb => h.hpp b (by simpa using hb), ?_, ?_⟩, evo n⟩
 ·intro k o hk
  rw [List.length_set]
  by_cases hki : k = id
  ·subst hki
   have hlt := R.lt h hs
   rw [List.getElem?_set_self hlt] at hk
   injection hk with hk
   subst hk
   refine ⟨l1, l2, l3, _, t, hblk, by simpa using l5, fun z hz => ?_, fun i x hx => ?_⟩
   ·rcases Array.mem_or_eq_of_mem_setIfInBounds hz with hz | hz
    ·exact l7 z hz
    ·rw [hz]; exact hone
   by_cases hij : i = j
   ·subst hij
    rw [List.getElem?_set_self hj] at hx
    injection hx with hx
    subst hx
    rw [Array.getD_eq_getD_getElem?, Array.getElem?_setIfInBounds_self, if_pos (by omega)]
    exact hv.evo (evo _)
   ·rw [List.getElem?_set_ne (Ne.symm hij)] at hx
    rw [Array.getD_eq_getD_getElem?, Array.getElem?_setIfInBounds_ne (Ne.symm hij), ← Array.getD_eq_getD_getElem?]
    exact (l6 i x hx).evo (evo _)
  ·rw [List.getElem?_set_ne (Ne.symm hki)] at hk
   have hl := h.live k o hk
   refine hl.evo (evo _) rfl rfl rfl rfl (fun hd _ => ⟨setCell_other v (fun e => hki ?_), rfl⟩)
   exact h.inj k id o _ hk hs hd (by simp) e
 ·intro i k o p hi hk ho hp hloc
  have aux : ∀ (m : Nat) (q : SObj), (S.set id (.cells (cs.set j c)))[m]? = some q → q ≠ .dead → ∃ q', S[m]? = some q' ∧ q' ≠ .dead := by
   intro m q hm hq
   by_cases hmi : m = id
   ·subst hmi; exact ⟨_, hs, by simp⟩
   ·rw [List.getElem?_set_ne (Ne.symm hmi)] at hm
    exact ⟨q, hm, hq⟩
  obtain ⟨o', h1, h2⟩ := aux i o hi ho
  obtain ⟨p', h3, h4⟩ := aux k p hk hp
  exact h.inj i k o' p' h1 h3 h2 h4 hloc
def G.grow (g : G) (id b hw p : Nat) : G :=
 { g with pp := fun k => if k = b then p else g.pp k, loc := fun k => if k = id then b else g.loc k, hw := fun k => if k = id then hw else g.hw k }
theorem tip_inj (h : R S w g base bd) {id : Nat} {hw sz : Nat} (hs : S[id]? = some (.tip hw sz)) {k : Nat} {o : SObj} (hk : S[k]? = some o) (hd : o ≠ .dead) (hne : k ≠ id) : g.loc k ≠ g.loc id :=
 fun e => hne (h.inj k id o _ hk hs hd (by simp) e)
theorem R.grown_aux (h : R S w g base bd) {id hw sz b p m : Nat} (hs : S[id]? = some (.tip hw sz)) (hb0 : ¬ g.fix b) (hb : b < w'.heap.size)
  (hpp : ∀ k, w'.heap.size ≤ k → g.pp k = 0) (_hle : w.heap.size ≤ w'.heap.size)
  (hfree : ∀ (k : Nat) (o : SObj), S[k]? = some o → o ≠ .dead → k ≠ id → g.loc k ≠ b)
  (hheap : ∀ (k : Nat) (o : SObj), S[k]? = some o → o ≠ .dead → k ≠ id → w'.heap[g.loc k]? = w.heap[g.loc k]?)
  (evo : Evo S.length g w (g.grow id b m p) w') : R (S.set id (.tip m sz)) w' (g.grow id b m p) base bd := by
 obtain ⟨t1, t2, t3, t4, t5⟩ := h.live id _ hs
 refine ⟨by simpa using h.hbase, h.hbd, fun k hk => by have := h.hfix k hk; omega, ?_, ?_, ?_⟩
 ·intro k hk
  simp only [G.grow]
  rw [if_neg (by omega)]
  exact hpp k hk
 ·intro k o hk
  rw [List.length_set]
  by_cases hki : k = id
  ·subst hki
   have hlt := R.lt h hs
   rw [List.getElem?_set_self hlt] at hk
   injection hk with hk
   subst hk
   refine ⟨t1, by simp [G.grow], t3, by simpa [G.grow] using hb0, by simpa [G.grow] using hb⟩
  ·rw [List.getElem?_set_ne (Ne.symm hki)] at hk
   have hl := h.live k o hk
   refine hl.evo (evo.mono (lim_le h k)) rfl (by simp [G.grow, hki]) (by simp [G.grow, hki]) rfl (fun hd _ => ⟨hheap k o hk hd hki, ?_⟩)
   simp only [G.grow]
   rw [if_neg (hfree k o hk hd hki)]
 ·intro i k o q hi hk ho hq hloc
  have aux : ∀ (j : Nat) (x : SObj), (S.set id (.tip m sz))[j]? = some x → x ≠ .dead → ∃ x', S[j]? = some x' ∧ x' ≠ .dead := by
   intro j x hj hx
   by_cases hji : j = id
   ·subst hji; exact ⟨_, hs, by simp⟩
   ·rw [List.getElem?_set_ne (Ne.symm hji)] at hj
    exact ⟨x, hj, hx⟩
  obtain ⟨o', h1, h2⟩ := aux i o hi ho
  obtain ⟨q', h3, h4⟩ := aux k q hk hq
  simp only [G.grow] at hloc
  by_cases e1 : i = id <;> by_cases e2 : k = id
  ·omega
  ·rw [if_pos e1, if_neg e2] at hloc
   exact absurd hloc.symm (hfree k q' h3 h4 e2)
  ·rw [if_neg e1, if_pos e2] at hloc
   exact absurd hloc (hfree i o' h1 h2 e1)
  ·rw [if_neg e1, if_neg e2] at hloc
   exact h.inj i k o' q' h1 h3 h2 h4 hloc
theorem R.growIn (h : R S w g base bd) {id hw sz cap m : Nat} (hs : S[id]? = some (.tip hw sz)) (ht : TipC g w id cap) (hm : hw < m) {vs : List Value}
  (hl : vs.length = (m - hw) * sz) (hcap : m ≤ cap) :
  R (S.set id (.tip m sz)) (w.setCells (g.loc id) (hw * sz) vs) (g.grow id (g.loc id) m (m * sz)) base bd ∧
  Evo S.length g w (g.grow id (g.loc id) m (m * sz)) (w.setCells (g.loc id) (hw * sz) vs) ∧
  TipC (g.grow id (g.loc id) m (m * sz)) (w.setCells (g.loc id) (hw * sz) vs) id cap := by
 obtain ⟨t1, t2, t3, t4, t5⟩ := h.live id _ hs
 obtain ⟨cur, e, fr, c1, c2, c3, c4⟩ := ht
 rw [t2, t3] at c3 c4
 rw [t3] at c2
 have hmul : hw * sz + (m - hw) * sz = m * sz := by rw [← Nat.add_mul]; congr 1; omega
 have hle : m * sz ≤ cap * sz := Nat.mul_le_mul_right _ hcap
 obtain ⟨cur', s1, s2, s3, s4, s5, s6, s7, s8, s9⟩ := setCells_block (g.loc id) e fr vs (hw * sz) w cur c1 (by omega)
 have evo : Evo S.length g w (g.grow id (g.loc id) m (m * sz)) (w.setCells (g.loc id) (hw * sz) vs) := by
  refine ⟨?_, ?_, fun _ _ => rfl, ?_, fun _ _ => rfl, ?_, (fun k _ hob => by simp only [G.grow]; rw [if_neg (by rintro rfl; rw [t1] at hob; cases hob)]), ?_, by omega, rfl, fun k hk => s5 k (by rintro rfl; exact t4 hk), fun k hk => by simp only [G.grow]; rw [if_neg (by rintro rfl; exact t4 hk)], s7, s8, s9⟩
  ·intro b
   simp only [G.grow]
   split
   ·subst_vars; omega
   ·exact Nat.le_refl _
  ·intro b o ho
   by_cases hb : b = g.loc id
   ·subst hb
    have := s3 o (.inl (by omega))
    simp [World.cell?, s1, c1, this]
   ·exact cell?_of_heap (s5 b hb) o
  ·intro k _ _
   simp only [G.grow]
   split
   ·subst_vars; rfl
   ·rfl
  ·intro k _
   simp only [G.grow]
   split
   ·subst_vars; omega
   ·exact Nat.le_refl _
  ·intro k cp hk hob he hc
   have hki : k ≠ id := by
    rintro rfl
    simp [G.grow] at he
    omega
   obtain ⟨o, ho⟩ : ∃ o, S[k]? = some o := ⟨_, List.getElem?_eq_getElem hk⟩
   have hd : o ≠ .dead := by
    rintro rfl
    have := h.live k _ ho
    simp [Live, hob] at this
   have hlk := tip_inj h hs ho hd hki
   exact TipC.heap (g := g) (by simp [G.grow, hki]) (by simp [G.grow, hki]) rfl (by simp [G.grow, hlk]) (s5 _ hlk) hc
 refine ⟨R.grown_aux h hs t4 (by omega) (fun k hk => h.hpp k (by omega)) (by omega) (fun k o hk hd hne => tip_inj h hs hk hd hne) (fun k o hk hd hne => s5 _ (tip_inj h hs hk hd hne)) evo, evo, ?_⟩
 refine ⟨cur', e, fr, by simpa [G.grow] using s1, by simp [G.grow, t3, s2, c2], fun i hi hj => ?_, by simp [G.grow, t3]⟩
 have := c3 i (by simp [G.grow, t3] at hi; omega) (by omega)
 rw [s2] at hj
 simp only [G.grow, if_true]
 simpa [World.frozen?, s1, c1] using this
theorem R.growOut (h : R S w g base bd) {id hw sz cap m : Nat} (hs : S[id]? = some (.tip hw sz)) (hm : hw < m) {cur : Array Value} (e : TypeId)
  (hcur : cur.size = cap * sz) :
  R (S.set id (.tip m sz)) (w.alloc (.cells cur e)) (g.grow id w.heap.size m (m * sz)) base bd ∧
  Evo S.length g w (g.grow id w.heap.size m (m * sz)) (w.alloc (.cells cur e)) ∧
  TipC (g.grow id w.heap.size m (m * sz)) (w.alloc (.cells cur e)) id cap := by
 obtain ⟨t1, t2, t3, t4, t5⟩ := h.live id _ hs
 have hpp := h.hpp w.heap.size (Nat.le_refl _)
 have llt : ∀ (k : Nat) (o : SObj), S[k]? = some o → o ≠ .dead → g.loc k < w.heap.size := fun k o hk hd => (h.live k o hk).loc_lt hd
 have evo : Evo S.length g w (g.grow id w.heap.size m (m * sz)) (w.alloc (.cells cur e)) := by
  refine ⟨?_, ?_, fun _ _ => rfl, ?_, fun _ _ => rfl, ?_, (fun k _ hob => by simp only [G.grow]; rw [if_neg (by rintro rfl; rw [t1] at hob; cases hob)]), ?_, by simp, rfl, fun k hk => Below.heap_alloc w _ k (h.hfix k hk), fun k hk => by simp only [G.grow]; rw [if_neg (by have := h.hfix k hk; omega)], rfl, rfl, rfl⟩
  ·intro b
   simp only [G.grow]
   split
   ·subst_vars; omega
   ·exact Nat.le_refl _
  ·intro b o ho
   have hb : b ≠ w.heap.size := by rintro rfl; omega
   exact World.cell?_alloc_old w _ (a := ⟨b, o, none⟩) hb
  ·intro k hk ho
   simp only [G.grow] at ho ⊢
   split
   ·rename_i hk2
    rw [if_pos hk2] at ho
    subst hk2
    rcases ho with ho | ho
    ·rw [t1] at ho; cases ho
    ·omega
   ·rfl
  ·intro k _
   simp only [G.grow]
   split
   ·subst_vars; omega
   ·exact Nat.le_refl _
  ·intro k cp hk hob he hc
   have hki : k ≠ id := by
    rintro rfl
    simp [G.grow] at he
    omega
   have hlt := hc.lt
   exact TipC.heap (g := g) (by simp [G.grow, hki]) (by simp [G.grow, hki]) rfl (by simp only [G.grow]; rw [if_neg (by omega)]) (Below.heap_alloc w _ _ hlt) hc
 refine ⟨R.grown_aux h hs (fun hk => by have := h.hfix _ hk; omega) (by simp) (fun k hk => h.hpp k (by simp at hk; omega)) (by simp) (fun k o hk hd _ => by have := llt k o hk hd; omega) (fun k o hk hd _ => Below.heap_alloc w _ _ (llt k o hk hd)) evo, evo, ?_⟩
 have hnew := alloc_new w (.cells cur e)
 refine ⟨cur, e, (0, 0), by simpa only [G.grow, if_true] using hnew, by simp [G.grow, t3, hcur], fun i hi hj => ?_, by simp [G.grow, t3]⟩
 simp only [G.grow, if_true, World.frozen?, hnew]
 simp
end
end Go.Pam
namespace Go.Pam
structure TyI where
 und : TypeDesc
 size : Nat
 bytes : Nat
 zero : PV
 /-- '==' at this type compares part by part. -/
 eqok : Bool
 /-- 'comparable' of the type's row. -/
 comp : Bool
 methods : List Method := []
def TyI.agg (t : TyI) : Bool := match t.und with
 | .struct _ | .array _ _ => true
 | _ => false
structure Ctx where
 ty : TypeId → Option TyI
 /-- Functions that may write to the slices that they are handed. -/
 byref : FuncId → Bool := fun _ => false
 /-- Rows of these slices' types stay what may be written to, where they are stored. -/
 rowT : TypeId → Bool := fun _ => false
 /-- What lies in memory from the beginning on, and stays: blocks. -/
 gls : List (Nat × List Value) := []
/-! Values of the program's text -/
def absV1 : Value → Option PV
 | .bool b => some (.bool b)
 | .int k n => some (.int k n)
 | .string s => some (.str s.data.toList)
 | .pointer none => some .nilp
 | .slice none 0 0 => some .nils
 | .map none => some .nilm
 | .nilFunc => some .nilf
 | .nilIface => some .nili
 | .func f as bs => if as.size = 0 ∧ bs.size = 0 then some (.fn f [] []) else none
 | _ => none
def absL (f : Value → Option PV) : List Value → Option (List PV)
 | [] => some []
 | v :: vs => match f v, absL f vs with
  | some x, some xs => some (x :: xs)
  | _, _ => none
def absV : Value → Option PV
 | .iface t v => (absV1 v).map (.ifc t)
 | .agg cs => (absL absV1 cs.toList).map .agg
 | .tuple cs => (absL absV1 cs.toList).map .tup
 | v => absV1 v
mutual
def PV.clean : PV → Bool
 | .ptr _ _ => false
 | .hsl _ _ _ => false
 | .rsl _ _ => false
 | .map _ => false
 | .iptr cs _ => cleanL cs
 | .lst xs t => (match t with | .tip _ => false | _ => true) && cleanL xs
 | .fn _ as bs => cleanL as && cleanL bs
 | .ifc _ v => v.clean
 | .agg cs => cleanL cs
 | .tup cs => cleanL cs
 | _ => true
 termination_by structural x => x
def cleanL : List PV → Bool
 | [] => true
 | x :: xs => x.clean && cleanL xs
 termination_by structural xs => xs
end
def PV.strip1 : PV → PV
 | .lst xs _ => .lst xs .none
 | v => v
def PV.strip2 : PV → PV
 | .lst xs _ => .lst xs .none
 | .agg cs => .agg (cs.map PV.strip1)
 | .ifc t v => .ifc t v.strip1
 | v => v
def PV.strip : PV → PV
 | .lst xs _ => .lst xs .none
 | .agg cs => .agg (cs.map PV.strip1)
 | .ifc t v => .ifc t v.strip2
 | .tup vs => .tup (vs.map PV.strip2)
 | v => v
def PV.storable : PV → Bool
 | .poison => false
 | .tup _ => false
 | _ => true
def opd (σ : Nat → PV) : Operand → PV
 | .tmp t => σ t
 | .const v => (absV v).getD .poison
 | .func f => .fn (.func f) [] []
 | .global _ => .poison
def upd (σ : Nat → PV) (d : Option Nat) (v : PV) : Nat → PV :=
 match d with
 | some d => fun i => if i = d then v else σ i
 | none => σ
/-! Numbers and texts -/
def bitsOf (op : BinOp) (k : IntKind) (x y : Int) : Option PV :=
 let a := BitVec.ofInt k.bits x
 let b := BitVec.ofInt k.bits y
 match op with
 | .and => some (.int k (k.wrap (a &&& b).toNat))
 | .or => some (.int k (k.wrap (a ||| b).toNat))
 | .xor => some (.int k (k.wrap (a ^^^ b).toNat))
 | .andNot => some (.int k (k.wrap (a &&& ~~~b).toNat))
 | _ => none
def intOp (op : BinOp) (k : IntKind) (x y : Int) : Option PV :=
 match op with
 | .add => some (.int k (k.wrap (x + y)))
 | .sub => some (.int k (k.wrap (x - y)))
 | .mul => some (.int k (k.wrap (x * y)))
 | .quo => if y = 0 then none else some (.int k (k.wrap (x.tdiv y)))
 | .rem => if y = 0 then none else some (.int k (x.tmod y))
 | .and | .or | .xor | .andNot => bitsOf op k x y
 | .eql => some (.bool (x == y))
 | .neq => some (.bool (x != y))
 | .lss => some (.bool (decide (x < y)))
 | .leq => some (.bool (decide (x ≤ y)))
 | .gtr => some (.bool (decide (x > y)))
 | .geq => some (.bool (decide (x ≥ y)))
 | _ => none
def shiftOp (op : BinOp) (k : IntKind) (x y : Int) : Option PV :=
 if y < 0 then none else
  match op with
  | .shl => some (.int k (k.wrap (x * 2 ^ (min y.toNat k.bits))))
  | .shr => some (.int k (x.fdiv (2 ^ (min y.toNat k.bits))))
  | _ => none
def strOp (op : BinOp) (x y : List UInt8) : Option PV :=
 match op with
 | .add => if ((x.length + y.length : Nat) : Int) > IntKind.i64.max then none else some (.str (x ++ y))
 | .eql => some (.bool (x == y))
 | .neq => some (.bool !(x == y))
 | .lss => some (.bool (Op.bytesLess x y))
 | .leq => some (.bool (Op.bytesLess x y || x == y))
 | .gtr => some (.bool !(Op.bytesLess x y || x == y))
 | .geq => some (.bool !(Op.bytesLess x y))
 | _ => none
def partOf (ctx : Ctx) (t : TypeId) (cs : List PV) (off : Nat) : Option PV :=
 match ctx.ty t with
 | none => none
 | some ti => if ti.agg then (if off + ti.size ≤ cs.length then some (.agg ((cs.drop off).take ti.size)) else none) else cs[off]?
def eqFields (ctx : Ctx) (eq : TypeId → PV → PV → Option Bool) : List Field → List PV → List PV → Option Bool
 | [], _, _ => some true
 | f :: fs, xs, ys =>
  if f.name = "_" then eqFields ctx eq fs xs ys else
   match partOf ctx f.type xs f.offset, partOf ctx f.type ys f.offset with
   | some a, some b =>
    match eq f.type a b with
    | some true => eqFields ctx eq fs xs ys
    | some false => some false
    | none => none
   | _, _ => none
def eqIn (ctx : Ctx) : Nat → TypeId → PV → PV → Option Bool
 | 0, _, _, _ => none
 | d + 1, t, x, y =>
  match ctx.ty t with
  | none => none
  | some ti =>
   match ti.und, x, y with
   | .bool, .bool a, .bool b => some (a == b)
   | .int _, .int k a, .int k' b => if k = k' then some (a == b) else none
   | .string, .str a, .str b => some (a == b)
   | .pointer _, .nilp, .nilp => some true
   | .pointer _, .nilp, .ptr _ _ => some false
   | .pointer _, .ptr _ _, .nilp => some false
   | .pointer _, .nilp, .iptr _ _ => some false
   | .pointer _, .iptr _ _, .nilp => some false
   | .interface _, .nili, .nili => some true
   | .interface _, .nili, .ifc _ _ => some false
   | .interface _, .ifc _ _, .nili => some false
   | .interface _, .ifc tx vx, .ifc ty vy =>
    if tx ≠ ty then some false else
     match ctx.ty tx with
     | none => none
     | some tj => if tj.comp then eqIn ctx d tx vx vy else none
   | .struct fields, .agg xs, .agg ys =>
    if ti.eqok then eqFields ctx (eqIn ctx d) fields.toList xs ys else none
   | .slice _, .nils, .nils => some true
   | .slice _, .nils, .lst _ _ => some false
   | .slice _, .lst _ _, .nils => some false
   | .slice _, .nils, .hsl _ _ _ => some false
   | .slice _, .hsl _ _ _, .nils => some false
   | .slice _, .nils, .rsl _ _ => some false
   | .slice _, .rsl _ _, .nils => some false
   | .slice _, .nils, .emp => some false
   | .slice _, .emp, .nils => some false
   | .map _ _, .nilm, .nilm => some true
   | .map _ _, .nilm, .map _ => some false
   | .map _ _, .map _, .nilm => some false
   | .func _ _ _, .nilf, .nilf => some true
   | .func _ _ _, .nilf, .fn _ _ _ => some false
   | .func _ _ _, .fn _ _ _, .nilf => some false
   | _, _, _ => none
def eqGuardOk (x y : Operand) : PV → PV → Bool
 | .nili, .nili => (match x with | .const _ => true | _ => false) || (match y with | .const _ => true | _ => false)
 | _, _ => true
def binPV (ctx : Ctx) (op : BinOp) (t : TypeId) (xo yo : Operand) (x y : PV) : Option PV :=
 match op, x, y with
 | .shl, .int k a, .int _ b => shiftOp .shl k a b
 | .shr, .int k a, .int _ b => shiftOp .shr k a b
 | op, .int k a, .int k' b => if k ≠ k' then none else intOp op k a b
 | op, .str a, .str b => strOp op a b
 | .eql, x, y => if eqGuardOk xo yo x y then (eqIn ctx 40 t x y).map .bool else none
 | .neq, x, y => if eqGuardOk xo yo x y then (eqIn ctx 40 t x y).map fun b => .bool !b else none
 | _, _, _ => none
def unPV (op : UnOp) (x : PV) : Option PV :=
 match op, x with
 | .neg, .int k n => some (.int k (k.wrap (0 - n)))
 | .xor, .int k n => bitsOf .xor k (if k.signed then -1 else k.max) n
 | .not, .bool b => some (.bool !b)
 | _, _ => none
def fillPV (place : Nat → Option (Nat × Nat)) (cells : List PV) : List (Nat × PV) → Option (List PV)
 | [] => some cells
 | (i, v) :: rest =>
  match place i with
  | none => none
  | some (off, size) =>
   if v.storable = false ∨ v.cells.length ≠ size ∨ off + size > cells.length then none
   else fillPV place (cells.take off ++ v.cells ++ cells.drop (off + size)) rest
def sizedAll (n : Nat) : List PV → Bool
 | [] => true
 | x :: xs => x.cells.length == n && sizedAll n xs
def isSlice : PV → Bool
 | .nils => true
 | .lst _ _ => true
 | .hsl _ _ _ => true
 | .emp => true
 | .rsl _ _ => true
 | _ => false
def PV.isOne : PV → Bool
 | .agg _ => false
 | _ => true
def putCells (y : PV) (j : Nat) (vs : List PV) : Option PV :=
 match y, vs with
 | .agg cs, vs => some (.agg (cs.take j ++ vs ++ cs.drop (j + vs.length)))
 | _, [v] => if v.isOne then some v else none
 | _, _ => none
def loadPV (ctx : Ctx) (t : TypeId) (a : PV) (S : List SObj) : Option PV :=
 match a with
 | .ptr id off =>
  match S[id]? with
  | some (.cells cs) => partOf ctx t cs off
  | some (.row xs sz _) => (xs[off / sz]?).bind fun x => partOf ctx t x.cells (off % sz)
  | _ => none
 | .iptr cs off => partOf ctx t cs off
 | _ => none
def storePV (ctx : Ctx) (base : Nat) (t : TypeId) (a x : PV) (S : List SObj) : Option (List SObj × Bool) :=
 match a with
 | .ptr id off =>
  match S[id]?, ctx.ty t with
  | some (.cells cs), some ti =>
   if x.storable = false ∨ x.cells.length ≠ ti.size ∨ off + ti.size > cs.length then none
   else some (S.set id (.cells (cs.take off ++ x.cells ++ cs.drop (off + ti.size))), decide (id < base) && !x.clean)
  | some (.row xs sz false), some ti =>
   if x.storable = false ∨ x.cells.length ≠ ti.size ∨ off % sz + ti.size > sz then none
   else ((xs[off / sz]?).bind fun y => putCells y (off % sz) x.strip.cells).map fun z => (S.set id (.row (xs.set (off / sz) z) sz false), decide (id < base) && !x.clean)
  | _, _ => none
 | _ => none
def fieldsOf (ctx : Ctx) (t : TypeId) : Option (Array Field) :=
 match ctx.ty t with
 | some ti => match ti.und with
  | .struct fs => some fs
  | _ => none
 | none => none
def fieldAddrPV (ctx : Ctx) (t : TypeId) (a : PV) (i : Nat) : Option PV :=
 match fieldsOf ctx t with
 | none => none
 | some fs => match fs[i]? with
  | none => none
  | some f => match ctx.ty f.type with
   | none => none
   | some fi => if fi.size = 0 then none else
    match a with
    | .ptr id off => some (.ptr id (off + f.offset))
    | .iptr cs off => some (.iptr cs (off + f.offset))
    | _ => none
def indexAddrPV (ctx : Ctx) (t : TypeId) (x : PV) (i : Int) : Option PV :=
 match ctx.ty t with
 | none => none
 | some ti =>
  match ti.und, x with
  | .slice e, .lst xs _ =>
   match ctx.ty e with
   | some ei =>
    if 0 ≤ i then match xs[i.toNat]? with
     | some v => if v.cells.length = ei.size then some (.iptr v.cells 0) else none
     | none => none
    else none
   | none => none
  | .slice e, .hsl id off len =>
   match ctx.ty e with
   | some ei => if 0 ≤ i ∧ i < len then some (.ptr id (off + i.toNat * ei.size)) else none
   | none => none
  | .slice e, .rsl id len =>
   match ctx.ty e with
   | some ei => if 0 ≤ i ∧ i < len then some (.ptr id (i.toNat * ei.size)) else none
   | none => none
  | .array n e, .ptr id off =>
   match ctx.ty e with
   | some ei => if 0 ≤ i ∧ i < n then some (.ptr id (off + i.toNat * ei.size)) else none
   | none => none
  | .array n e, .iptr cs off =>
   match ctx.ty e with
   | some ei => if 0 ≤ i ∧ i < n then some (.iptr cs (off + i.toNat * ei.size)) else none
   | none => none
  | _, _ => none
def indexPV (ctx : Ctx) (t : TypeId) (x : PV) (i : Int) : Option PV :=
 match ctx.ty t with
 | none => none
 | some ti =>
  match ti.und, x with
  | .string, .str s => if 0 ≤ i then (s[i.toNat]?).map fun b => .int .u8 b.toNat else none
  | .array n e, .agg cs =>
   match ctx.ty e with
   | some ei => if 0 ≤ i ∧ i < n then partOf ctx e cs (i.toNat * ei.size) else none
   | none => none
  | _, _ => none
def boundOf (x : Option PV) (d : Nat) : Option Int :=
 match x with
 | none => some d
 | some (.int _ n) => some n
 | _ => none
def slicePV (ctx : Ctx) (t : TypeId) (x : PV) (lo hi mx : Option PV) : Option PV :=
 match ctx.ty t with
 | none => none
 | some ti =>
  match ti.und, x, mx with
  | .string, .str s, none =>
   match boundOf lo 0, boundOf hi s.length with
   | some l, some h => if 0 ≤ l ∧ l ≤ h ∧ h ≤ s.length then some (.str ((s.take h.toNat).drop l.toNat)) else none
   | _, _ => none
  | .slice e, .lst xs tag, none =>
   match boundOf lo 0, boundOf hi xs.length, ctx.ty e with
   | some l, some h, some ei =>
    if 0 ≤ l ∧ l ≤ h ∧ h ≤ xs.length then
     if l = 0 ∧ h = xs.length then some (.lst xs tag) else
      if sizedAll ei.size xs then some (.lst ((xs.take h.toNat).drop l.toNat) .none) else none
    else none
   | _, _, _ => none
  | .slice e, .nils, none =>
   match boundOf lo 0, boundOf hi 0, ctx.ty e with
   | some l, some h, some _ => if l = 0 ∧ h = 0 then some .nils else none
   | _, _, _ => none
  | .slice e, .nils, some m =>
   match boundOf lo 0, boundOf hi 0, boundOf (some m) 0, ctx.ty e with
   | some l, some h, some k, some _ => if hi.isSome ∧ l = 0 ∧ h = 0 ∧ k = 0 then some .nils else none
   | _, _, _, _ => none
  | .slice e, .lst _ _, some m =>
   match boundOf lo 0, boundOf hi 0, boundOf (some m) 0, ctx.ty e with
   | some l, some h, some k, some _ => if hi.isSome ∧ l = 0 ∧ h = 0 ∧ k = 0 then some .emp else none
   | _, _, _, _ => none
  | .slice e, .hsl id off len, none =>
   match boundOf lo 0, boundOf hi len, ctx.ty e with
   | some l, some h, some ei =>
    if 0 ≤ l ∧ l ≤ h ∧ h ≤ len ∧ l < h then some (.hsl id (off + l.toNat * ei.size) (h - l).toNat) else none
   | _, _, _ => none
  | .slice e, .rsl id len, none =>
   match boundOf lo 0, boundOf hi len, ctx.ty e with
   | some l, some h, some ei =>
    if 0 ≤ l ∧ l ≤ h ∧ h ≤ len then
     if l = 0 then some (.rsl id h.toNat) else if l < h then some (.hsl id (l.toNat * ei.size) (h - l).toNat) else some (.lst [] .none)
    else none
   | _, _, _ => none
  | .array n e, .ptr id off, none =>
   match boundOf lo 0, boundOf hi n, ctx.ty e with
   | some l, some h, some ei =>
    if 0 ≤ l ∧ l ≤ h ∧ h ≤ n ∧ l < h then some (.hsl id (off + l.toNat * ei.size) (h - l).toNat) else none
   | _, _, _ => none
  | _, _, _ => none
def convPV (ctx : Ctx) (src dst : TypeId) (x : PV) (S : List SObj) : Option (PV × List SObj) :=
 match ctx.ty src, ctx.ty dst with
 | some si, some di =>
  match si.und, di.und, x with
  | .int _, .int k, .int _ n => some (.int k (k.wrap n), S)
  | .string, .string, .str s => some (.str s, S)
  | .string, .slice e, .str s =>
   match ctx.ty e with
   | some ei => match ei.und with
    | .int .u8 => some (.lst (s.map fun b => .int .u8 b.toNat) (.tip S.length), S ++ [.tip s.length 1])
    | _ => none
   | none => none
  | .slice e, .string, .lst xs _ =>
   match ctx.ty e with
   | some ei => match ei.und with
    | .int .u8 => (bytesOfPV xs).map fun b => (.str b, S)
    | _ => none
   | none => none
  | .slice e, .string, .nils =>
   match ctx.ty e with
   | some ei => match ei.und with
    | .int .u8 => some (.str [], S)
    | _ => none
   | none => none
  | _, _, _ => none
 | _, _ => none
 where
 bytesOfPV : List PV → Option (List UInt8)
  | [] => some []
  | .int .u8 n :: r => (bytesOfPV r).map (UInt8.ofNat n.toNat :: ·)
  | _ :: _ => none
def lenPV (ctx : Ctx) (t : TypeId) (x : PV) (S : List SObj) : Option Int :=
 match ctx.ty t with
 | none => none
 | some ti =>
  match ti.und, x with
  | .string, .str s => some s.length
  | .array n _, _ => some n
  | .slice _, .nils => some 0
  | .slice _, .lst xs _ => some xs.length
  | .slice _, .hsl _ _ n => some n
  | .slice _, .emp => some 0
  | .slice _, .rsl _ n => some n
  | .map _ _, .nilm => some 0
  | .map _ _, .map id => match S[id]? with
   | some (.map es) => some es.length
   | _ => none
  | _, _ => none
def listOf : PV → Option (List PV)
 | .nils => some []
 | .emp => some []
 | .lst xs _ => some xs
 | .str s => some (s.map fun b => .int .u8 b.toNat)
 | _ => none
def appendPV (ctx : Ctx) (ts : Array TypeId) (s x : PV) (S : List SObj) : Option (PV × List SObj) :=
 match ts[0]?, ts[1]? with
 | some t, some u =>
  match ctx.ty t, ctx.ty u, listOf x with
  | some ti, some ui, some ys =>
   match ti.und, ui.und with
   | .slice _, .int _ => none
   | .slice e, _ =>
    match ctx.ty e with
    | none => none
    | some ei =>
     if ys.isEmpty then (if isSlice s then some (s, S) else none) else
     if sizedAll ei.size ys = false ∨ ei.size = 0 ∨ ei.bytes = 0 ∨ ei.zero.storable = false ∨ ei.zero.cells.length ≠ ei.size then none else
     match s with
     | .nils => if ys.length * ei.bytes ≤ 2 ^ 47 then some (.lst ys (.tip S.length), S ++ [.tip ys.length ei.size]) else none
     | .lst xs .full => if (xs.length + ys.length) * ei.bytes ≤ 2 ^ 47 ∧ sizedAll ei.size xs then some (.lst (xs ++ ys) (.tip S.length), S ++ [.tip (xs.length + ys.length) ei.size]) else none
     | .rsl id len =>
      match S[id]? with
      | some (.row xs sz false) => if len = xs.length ∧ sz = ei.size ∧ (xs.length + ys.length) * ei.bytes ≤ 2 ^ 47 then some (.rsl S.length (xs.length + ys.length), S.set id .dead ++ [.row (xs ++ ys) sz false]) else none
      | _ => none
     | .lst xs (.tip id) =>
      match S[id]? with
      | some (.tip hw sz) => if hw = xs.length ∧ sz = ei.size ∧ (xs.length + ys.length) * ei.bytes ≤ 2 ^ 47 then some (.lst (xs ++ ys) (.tip id), S.set id (.tip (xs.length + ys.length) sz)) else none
      | _ => none
     | _ => none
   | _, _ => none
  | _, _, _ => none
 | _, _ => none
/-! Rows that may be written to -/
def frzQ (v : PV) (S : List SObj) : Option (PV × List SObj) :=
 match v with
 | .rsl id len => match S[id]? with
  | some (.row xs sz _) => if len = xs.length then some (.lst xs .none, S.set id (.row xs sz true)) else none
  | _ => none
 | .emp => some (.lst [] .none, S)
 | _ => none
def frz1 (v : PV) (S : List SObj) : PV × List SObj := (frzQ v S).getD (v, S)
def frzL : List PV → List SObj → List PV × List SObj
 | [], S => ([], S)
 | v :: vs, S => let (v', S1) := frz1 v S; let (vs', S2) := frzL vs S1; (v' :: vs', S2)
def frzT : List Operand → (Nat → PV) → List SObj → (Nat → PV) × List SObj
 | [], σ, S => (σ, S)
 | .tmp t :: xs, σ, S => match frzQ (σ t) S with
  | some (v, S1) => frzT xs (upd σ (some t) v) S1
  | none => frzT xs σ S
 | _ :: xs, σ, S => frzT xs σ S
def frzArgs (ctx : Ctx) (σ : Nat → PV) : Op → List Operand
 | .store t _ x => if ctx.rowT t then [] else [x]
 | .mapUpdate _ _ _ x => [x]
 | .insert _ _ _ x => [x]
 | .entryStore _ _ _ x => [x]
 | .box _ x => [x]
 | .build t ps => if ctx.rowT t then [] else ps.toList.map (·.2)
 | .buildSlice _ _ ps => ps.toList.map (·.2)
 | .makeInterface _ x => [x]
 | .makeFunc _ as bs => as.toList ++ bs.toList
 | .convert _ _ x => [x]
 | .call c => match c.callee with
  | .builtin .append => c.args.toList.drop 1
  | .builtin _ => []
  | .value f => match opd σ f with
   | .fn (.func g) _ _ => if ctx.byref g then [] else c.args.toList
   | _ => c.args.toList
  | .invoke _ _ => c.args.toList
 | _ => []
def minmax (mx : Bool) : List PV → Option PV
 | [] => none
 | .int k n :: r => go k n r
 | _ => none
 where
 go (k : IntKind) (n : Int) : List PV → Option PV
  | [] => some (.int k n)
  | .int _ m :: r => go k (if mx then (if n < m then m else n) else (if m < n then m else n)) r
  | _ => none
def truncS (s : PV) (S : List SObj) : List SObj :=
 match s with
 | .rsl id len => match S[id]? with
  | some (.row xs sz false) => if len < xs.length then S.set id (.row (xs.take len) sz false) else S
  | _ => S
 | _ => S
def clearPV (ctx : Ctx) (t : TypeId) (x : PV) (S : List SObj) : Option (List SObj) :=
 match ctx.ty t with
 | some ti => match ti.und with
  | .slice e => match ctx.ty e with
   | some ei => match x with
    | .nils => some S
    | .emp => some S
    | .rsl id len => row ei id 0 len
    | .hsl id off len => if ei.size ≠ 0 ∧ off % ei.size = 0 then row ei id (off / ei.size) len else none
    | _ => none
   | none => none
  | _ => none
 | none => none
 where
 row (ei : TyI) (id i len : Nat) : Option (List SObj) :=
  match S[id]? with
  | some (.row xs sz false) =>
   if 0 < len ∧ i + len ≤ xs.length ∧ sz = ei.size ∧ ei.zero.cells.length = ei.size ∧ ei.zero.storable = true then some (S.set id (.row (xs.take i ++ List.replicate len ei.zero ++ xs.drop (i + len)) sz false)) else none
  | _ => none
/-! Maps -/
def keyEq (kd : TypeDesc) (a b : PV) : Option Bool :=
 match kd, a, b with
 | .int _, .int k x, .int l y => if k = l then some (x == y) else none
 | .string, .str s, .str t => some (s == t)
 | .bool, .bool x, .bool y => some (x == y)
 | _, _, _ => none
def plainKind : TypeDesc → Bool
 | .int _ => true
 | .string => true
 | .bool => true
 | _ => false
def findK (kd : TypeDesc) (k : PV) : List (PV × PV) → Nat → Option (Option (Nat × PV))
 | [], _ => some none
 | e :: es, i => match keyEq kd k e.1 with
  | some true => some (some (i, e.2))
  | some false => findK kd k es (i + 1)
  | none => none
def isInts : List PV → Bool
 | [] => true
 | .int _ _ :: xs => isInts xs
 | _ :: _ => false
def sameInts : List PV → List PV → Bool
 | [], [] => true
 | .int k a :: xs, .int l b :: ys => k == l && a == b && sameInts xs ys
 | _, _ => false
def keyEqD (ctx : Ctx) (kt : TypeId) : PV → PV → Option Bool
 | .agg xs, .agg ys => match eqIn ctx 40 kt (.agg xs) (.agg ys) with
  | some true => if sameInts xs ys then some true else none
  | some false => some false
  | none => none
 | _, _ => none
def flatTy (ctx : Ctx) : List Field → Nat → Bool
 | [], _ => true
 | f :: fs, n => f.name != "_" && decide (f.offset < n) && (match ctx.ty f.type with
  | some ti => !ti.agg && plainKind ti.und
  | none => false) && flatTy ctx fs n
def deepKind (ctx : Ctx) : TypeDesc → PV → Bool
 | .struct fs, .agg cs => isInts cs && flatTy ctx fs.toList cs.length
 | _, _ => false
def findD (ctx : Ctx) (kt : TypeId) (k : PV) : List (PV × PV) → Nat → Option (Option (Nat × PV))
 | [], _ => some none
 | e :: es, i => match keyEqD ctx kt k e.1 with
  | some true => some (some (i, e.2))
  | some false => findD ctx kt k es (i + 1)
  | none => none
def mapOf (S : List SObj) : PV → Option (List (PV × PV))
 | .nilm => some []
 | .map id => match S[id]? with
  | some (.map es) => some es
  | _ => none
 | _ => none
def lookupPV (ctx : Ctx) (t : TypeId) (m k : PV) (ok : Bool) (S : List SObj) : Option PV :=
 match ctx.ty t with
 | some ti => match ti.und with
  | .map kt et => match ctx.ty kt, ctx.ty et, mapOf S m with
   | some ki, some ei, some es => if plainKind ki.und then (findK ki.und k es 0).map fun r =>
     let (v, b) := match r with
      | some (_, v) => (v, true)
      | none => (ei.zero, false)
     if ok then .tup [v, .bool b] else v
    else if deepKind ctx ki.und k then (findD ctx kt k es 0).map fun r =>
     let (v, b) := match r with
      | some (_, v) => (v, true)
      | none => (ei.zero, false)
     if ok then .tup [v, .bool b] else v
    else none
   | _, _, _ => none
  | _ => none
 | none => none
def atMap (ctx : Ctx) (t : TypeId) (m k : PV) (S : List SObj) : Option (Nat × TypeId × List (PV × PV) × Option (Nat × PV)) :=
 match ctx.ty t, m with
 | some ti, .map id => match ti.und with
  | .map kt et => match ctx.ty kt, S[id]? with
   | some ki, some (.map es) => if plainKind ki.und && keyEq ki.und k k == some true then (findK ki.und k es 0).map fun r => (id, et, es, r)
    else if deepKind ctx ki.und k && keyEqD ctx kt k k == some true then (findD ctx kt k es 0).map fun r => (id, et, es, r) else none
   | _, _ => none
  | _ => none
 | _, _ => none
def mapUpdPV (ctx : Ctx) (base : Nat) (t : TypeId) (m k x : PV) (S : List SObj) : Option (List SObj × Bool) :=
 match atMap ctx t m k S with
 | some (id, _, es, some (i, _)) => some (S.set id (.map (es.set i (k, x))), decide (id < base) && !x.clean)
 | some (id, _, es, none) => some (S.set id (.map (es ++ [(k, x)])), decide (id < base) && !x.clean)
 | none => none
def mapEntryPV (ctx : Ctx) (t : TypeId) (m k : PV) (S : List SObj) : Option (PV × List SObj) :=
 match atMap ctx t m k S with
 | some (id, _, es, some (i, v)) => some (.tup [v, .int .i64 i], S.set id (.map (es.set i (k, v))))
 | some (id, et, es, none) => match ctx.ty et with
  | some ei => some (.tup [ei.zero, .int .i64 es.length], S.set id (.map (es ++ [(k, ei.zero)])))
  | none => none
 | none => none
def entryStorePV (base : Nat) (m st x : PV) (S : List SObj) : Option (List SObj × Bool) :=
 match m, st with
 | .map id, .int _ n => match S[id]? with
  | some (.map es) => if 0 ≤ n then (es[n.toNat]?).map fun kv => (S.set id (.map (es.set n.toNat (kv.1, x))), decide (id < base) && !x.clean) else none
  | _ => none
 | _, _ => none
def rangePV (ctx : Ctx) (t : TypeId) (m : PV) (S : List SObj) : Option (PV × List SObj) :=
 match ctx.ty t with
 | some ti => match ti.und, m with
  | .map _ _, .nilm => some (.ptr S.length 0, S ++ [.iter none 0 []])
  | .map _ _, .map id => match S[id]? with
   | some (.map es) => some (.ptr S.length 0, S ++ [.iter (some id) es.length []])
   | _ => none
  | _, _ => none
 | none => none
def nextPV (it : PV) (S : List SObj) : Option (PV × List SObj) :=
 match it with
 | .ptr i 0 => match S[i]? with
  | some (.iter none _ _) => some (.tup [.bool false], S)
  | some (.iter (some id) since seen) => match S[id]? with
   | some (.map []) => some (.tup [.bool false], S)
   | some (.map [kv]) => if since = 1 then (match seen with | [] => some (.tup [.bool true, kv.1, kv.2], S.set i (.iter (some id) since [0])) | [0] => some (.tup [.bool false], S) | _ => none) else none
   | _ => none
  | _ => none
 | _ => none
def entryPV (it : PV) (S : List SObj) : Option PV :=
 match it with
 | .ptr i 0 => match S[i]? with
  | some (.iter (some id) since seen) => match S[id]?, seen.getLast? with
   | some (.map es), some j => if since = es.length then (es[j]?).map fun kv => .tup [kv.1, kv.2] else none
   | _, _ => none
  | _ => none
 | _ => none
end Go.Pam
namespace Go.Pam
abbrev Call' := FuncId → List PV → List SObj → Option (PV × List SObj × Bool)
def placesOf (ctx : Ctx) : List Field → Option (List (Nat × Nat))
 | [] => some []
 | f :: fs => match ctx.ty f.type, placesOf ctx fs with
  | some fi, some l => some ((f.offset, fi.size) :: l)
  | _, _ => none
def buildPV (ctx : Ctx) (t : TypeId) (parts : List (Nat × PV)) : Option PV :=
 match ctx.ty t with
 | none => none
 | some ti =>
  if ti.zero.storable = false then none else
  match ti.und with
  | .struct fs => match placesOf ctx fs.toList with
   | some pl => (fillPV (fun i => pl[i]?) ti.zero.cells parts).map .agg
   | none => none
  | .array _ e => match ctx.ty e with
   | some ei => (fillPV (fun i => some (i * ei.size, ei.size)) ti.zero.cells parts).map .agg
   | none => none
  | _ => none
def setParts (size : Nat) (xs : List PV) : List (Nat × PV) → Option (List PV)
 | [] => some xs
 | (i, v) :: rest => if v.storable = true ∧ v.cells.length = size ∧ i < xs.length then setParts size (xs.set i v.strip) rest else none
def buildSlicePV (ctx : Ctx) (t : TypeId) (len : Nat) (parts : List (Nat × PV)) : Option PV :=
 match ctx.ty t with
 | none => none
 | some ti =>
  match ti.und with
  | .slice e => match ctx.ty e with
   | some ei => if len * ei.size ≤ 2 ^ 24 ∧ ei.size ≠ 0 ∧ ei.zero.cells.length = ei.size ∧ ei.zero.storable = true then (setParts ei.size (List.replicate len ei.zero) parts).map (.lst · .full) else none
   | none => none
  | _ => none
def makeSlicePV (ctx : Ctx) (t : TypeId) (l c : PV) (S : List SObj) : Option (PV × List SObj) :=
 match ctx.ty t, l, c with
 | some ti, .int _ n, .int _ m =>
  match ti.und with
  | .slice e => match ctx.ty e with
   | some ei => if 0 ≤ n ∧ n = m ∧ ei.bytes * n ≤ 2 ^ 47 ∧ n ≤ 2 ^ 62 ∧ ei.size ≠ 0 ∧ ei.zero.cells.length = ei.size ∧ ei.zero.storable = true then some (.lst (List.replicate n.toNat ei.zero) .full, S) else none
   | none => none
  | _ => none
 | _, _, _ => none
def assertPV (ctx : Ctx) (x : PV) (t : TypeId) (ok : Bool) : Option PV :=
 match ctx.ty t with
 | none => none
 | some ti =>
  match ti.und, x with
  | .interface _, _ => none
  | _, .nili => if ok then some (.tup [ti.zero, .bool false]) else none
  | _, .ifc u v => if u = t then some (if ok then .tup [v, .bool true] else v) else if ok then some (.tup [ti.zero, .bool false]) else none
  | _, _ => none
def methodPV (ctx : Ctx) (x : PV) (name : String) : Option (FuncId × PV) :=
 match x with
 | .ifc t v =>
  match ctx.ty t with
  | none => none
  | some ti =>
   match ti.methods.find? (·.name == name) with
   | none => none
   | some m =>
    if m.path.isEmpty then
     match m.func, ti.und with
     | some (f, true), .pointer _ => some (f, v)
     | some (_, false), .pointer _ => none
     | some (f, false), _ => some (f, v)
     | _, _ => none
    else none
 | _ => none
def callPV (ctx : Ctx) (call : Call') (σ : Nat → PV) (S : List SObj) (c : Go.Call) : Option (PV × List SObj × Bool) :=
 match c.callee with
 | .builtin .len => match c.argTypes[0]?, c.args.toList.map (opd σ) with
  | some t, x :: _ => (lenPV ctx t x S).map fun n => (.int .i64 n, S, false)
  | _, _ => none
 | .builtin .append => match c.args.toList.map (opd σ) with
  | s :: x :: _ => (appendPV ctx c.argTypes s x S).map fun (v, S') => (v, S', false)
  | _ => none
 | .builtin .min => (minmax false (c.args.toList.map (opd σ))).map fun v => (v, S, false)
 | .builtin .max => (minmax true (c.args.toList.map (opd σ))).map fun v => (v, S, false)
 | .builtin .clear => match c.argTypes[0]?, c.args.toList.map (opd σ) with
  | some t, x :: _ => (clearPV ctx t x S).map fun S' => (.tup [], S', false)
  | _, _ => none
 | .builtin _ => none
 | .value f => match opd σ f with
  | .fn (.func f) [] cap => call f (c.args.toList.map (opd σ) ++ cap) S
  | _ => none
 | .invoke r name => match methodPV ctx (opd σ r) name with
  | some (f, v) => call f (v :: c.args.toList.map (opd σ)) S
  | none => none
def evStep (ctx : Ctx) (call : Call') (base : Nat) (σ : Nat → PV) (S : List SObj) (op : Op) : Option (PV × List SObj × Bool) :=
 match op with
 | .move x => some (opd σ x, S, false)
 | .assign x => some (opd σ x, S, false)
 | .pick c a b => match opd σ c with
  | .bool t => some (if t then opd σ a else opd σ b, S, false)
  | _ => none
 | .alloc t => match ctx.ty t with
  | some ti => if ti.zero.storable then some (.ptr S.length 0, S ++ [.cells ti.zero.cells], false) else none
  | none => none
 | .box _ x => if (opd σ x).storable then some (.ptr S.length 0, S ++ [.cells (opd σ x).cells], false) else none
 | .build t ps => (buildPV ctx t (ps.toList.map fun p => (p.1, opd σ p.2))).map fun v => (v, S, false)
 | .buildSlice t n ps => (buildSlicePV ctx t n (ps.toList.map fun p => (p.1, opd σ p.2))).map fun v => (v, S, false)
 | .load t a => (loadPV ctx t (opd σ a) S).map fun v => (v, S, false)
 | .store t a x => (storePV ctx base t (opd σ a) (opd σ x) S).map fun (S', e) => (.tup [], S', e)
 | .nilCheck x => match opd σ x with
  | .ptr i o => some (.ptr i o, S, false)
  | .iptr cs o => some (.iptr cs o, S, false)
  | .ifc t v => some (.ifc t v, S, false)
  | .fn (.func f) a b => some (.fn (.func f) a b, S, false)
  | _ => none
 | .binOp op t x y _ => (binPV ctx op t x y (opd σ x) (opd σ y)).map fun v => (v, S, false)
 | .unOp op _ x => (unPV op (opd σ x)).map fun v => (v, S, false)
 | .convert s d x => (convPV ctx s d (opd σ x) S).map fun (v, S') => (v, S', false)
 | .makeInterface t x => match ctx.ty t with
  | some ti => match ti.und with
   | .interface _ => none
   | _ => some (.ifc t (opd σ x), S, false)
  | none => none
 | .makeFunc f as bs => some (.fn f (as.toList.map (opd σ)) (bs.toList.map (opd σ)), S, false)
 | .makeSlice t l c => (makeSlicePV ctx t (opd σ l) (opd σ c) S).map fun (v, S') => (v, S', false)
 | .slice t x lo hi mx => (slicePV ctx t (opd σ x) (lo.map (opd σ)) (hi.map (opd σ)) (mx.map (opd σ))).map fun v => (v, S, false)
 | .fieldAddr t x i => (fieldAddrPV ctx t (opd σ x) i).map fun v => (v, S, false)
 | .field t x i => match fieldsOf ctx t, opd σ x with
  | some fs, .agg cs => match fs[i]? with
   | some f => (partOf ctx f.type cs f.offset).map fun v => (v, S, false)
   | none => none
  | _, _ => none
 | .indexAddr t x i => match opd σ i with
  | .int _ n => (indexAddrPV ctx t (opd σ x) n).map fun v => (v, S, false)
  | _ => none
 | .index t x i => match opd σ i with
  | .int _ n => (indexPV ctx t (opd σ x) n).map fun v => (v, S, false)
  | _ => none
 | .typeAssert x _ t ok => (assertPV ctx (opd σ x) t ok).map fun v => (v, S, false)
 | .extract x i => match opd σ x with
  | .tup vs => (vs[i]?).map fun v => (v, S, false)
  | _ => none
 | .call c => callPV ctx call σ S c
 | .makeMap t none => match ctx.ty t with
  | some ti => match ti.und with
   | .map _ _ => some (.map S.length, S ++ [.map []], false)
   | _ => none
  | none => none
 | .lookup t m k ok => (lookupPV ctx t (opd σ m) (opd σ k) ok S).map fun v => (v, S, false)
 | .mapUpdate t m k x => (mapUpdPV ctx base t (opd σ m) (opd σ k) (opd σ x) S).map fun (S', e) => (.tup [], S', e)
 | .insert t m k x => (mapUpdPV ctx base t (opd σ m) (opd σ k) (opd σ x) S).map fun (S', e) => (.tup [], S', e)
 | .mapEntry t m k => (mapEntryPV ctx t (opd σ m) (opd σ k) S).map fun (v, S') => (v, S', false)
 | .entryStore _ m st x => (entryStorePV base (opd σ m) (opd σ st) (opd σ x) S).map fun (S', e) => (.tup [], S', e)
 | .range t m => (rangePV ctx t (opd σ m) S).map fun (v, S') => (v, S', false)
 | .entry it => (entryPV (opd σ it) S).map fun v => (v, S, false)
 | .next it false => (nextPV (opd σ it) S).map fun (v, S') => (v, S', false)
 | _ => none
/-! Are two values the same? -/
mutual
def PV.same : PV → PV → Bool
 | .poison, .poison => true
 | .bool a, .bool b => a == b
 | .int k a, .int l b => k == l && a == b
 | .str a, .str b => a == b
 | .nilp, .nilp => true
 | .ptr a b, .ptr c d => a == c && b == d
 | .iptr a b, .iptr c d => sameL a c && b == d
 | .nils, .nils => true
 | .lst a s, .lst b t => sameL a b && s == t
 | .hsl a b c, .hsl d e f => a == d && b == e && c == f
 | .emp, .emp => true
 | .rsl a b, .rsl c d => a == c && b == d
 | .nilm, .nilm => true
 | .map a, .map b => a == b
 | .nilf, .nilf => true
 | .fn f a b, .fn g c d => f == g && sameL a c && sameL b d
 | .nili, .nili => true
 | .ifc t a, .ifc u b => t == u && PV.same a b
 | .agg a, .agg b => sameL a b
 | .tup a, .tup b => sameL a b
 | _, _ => false
 termination_by structural x => x
def sameL : List PV → List PV → Bool
 | [], [] => true
 | x :: xs, y :: ys => PV.same x y && sameL xs ys
 | _, _ => false
 termination_by structural xs => xs
end
mutual
theorem PV.same_eq : ∀ (x y : PV), PV.same x y = true → x = y
 | .poison, y, h => by cases y <;> simp_all [PV.same]
 | .bool b, y, h => by cases y <;> simp_all [PV.same]
 | .int k n, y, h => by cases y <;> simp_all [PV.same]
 | .str s, y, h => by cases y <;> simp_all [PV.same]
 | .nilp, y, h => by cases y <;> simp_all [PV.same]
 | .ptr a b, y, h => by cases y <;> simp_all [PV.same]
 | .iptr a b, y, h => by
  cases y <;> simp only [PV.same, Bool.and_eq_true, reduceCtorEq] at h
  rw [sameL_eq a _ h.1, beq_iff_eq.1 h.2]
 | .nils, y, h => by cases y <;> simp_all [PV.same]
 | .lst a t, y, h => by
  cases y <;> simp only [PV.same, Bool.and_eq_true, reduceCtorEq] at h
  rw [sameL_eq a _ h.1, beq_iff_eq.1 h.2]
 | .hsl a b c, y, h => by cases y <;> simp_all [PV.same]
 | .emp, y, h => by cases y <;> simp_all [PV.same]
 | .rsl a b, y, h => by cases y <;> simp_all [PV.same]
 | .nilm, y, h => by cases y <;> simp_all [PV.same]
 | .map a, y, h => by cases y <;> simp_all [PV.same]
 | .nilf, y, h => by cases y <;> simp_all [PV.same]
 | .fn f a b, y, h => by
  cases y <;> simp only [PV.same, Bool.and_eq_true, reduceCtorEq] at h
  rw [sameL_eq a _ h.1.2, sameL_eq b _ h.2, beq_iff_eq.1 h.1.1]
 | .nili, y, h => by cases y <;> simp_all [PV.same]
 | .ifc t v, y, h => by
  cases y <;> simp only [PV.same, Bool.and_eq_true, reduceCtorEq] at h
  rw [PV.same_eq v _ h.2, beq_iff_eq.1 h.1]
 | .agg a, y, h => by
  cases y <;> simp only [PV.same, reduceCtorEq] at h
  rw [sameL_eq a _ h]
 | .tup a, y, h => by
  cases y <;> simp only [PV.same, reduceCtorEq] at h
  rw [sameL_eq a _ h]
theorem sameL_eq : ∀ (x y : List PV), sameL x y = true → x = y
 | [], y, h => by cases y <;> simp_all [sameL]
 | x :: xs, y, h => by
  cases y <;> simp only [sameL, Bool.and_eq_true, reduceCtorEq] at h
  rw [PV.same_eq x _ h.1, sameL_eq xs _ h.2]
end
mutual
theorem PV.same_refl : ∀ (x : PV), PV.same x x = true
 | .poison => rfl
 | .bool b => by simp [PV.same]
 | .int k n => by simp [PV.same]
 | .str s => by simp [PV.same]
 | .nilp => rfl
 | .ptr a b => by simp [PV.same]
 | .iptr a b => by simp [PV.same, sameL_refl a]
 | .nils => rfl
 | .lst a t => by simp [PV.same, sameL_refl a]
 | .hsl a b c => by simp [PV.same]
 | .emp => by simp [PV.same]
 | .rsl a b => by simp [PV.same]
 | .nilm => rfl
 | .map a => by simp [PV.same]
 | .nilf => rfl
 | .fn f a b => by simp [PV.same, sameL_refl a, sameL_refl b]
 | .nili => rfl
 | .ifc t v => by simp [PV.same, PV.same_refl v]
 | .agg a => by simp [PV.same, sameL_refl a]
 | .tup a => by simp [PV.same, sameL_refl a]
theorem sameL_refl : ∀ (x : List PV), sameL x x = true
 | [] => rfl
 | x :: xs => by simp [sameL, PV.same_refl x, sameL_refl xs]
end
instance decPV : DecidableEq PV := fun x y => if h : PV.same x y = true then isTrue (PV.same_eq x y h) else isFalse fun e => h (by rw [e]; exact PV.same_refl y)
abbrev sameL0 := sameL
def birthPV (ctx : Ctx) (σ : Nat → PV) (S : List SObj) (op : Op) : Option (PV × List SObj) :=
 match op with
 | .makeSlice t l c => match ctx.ty t, opd σ l, opd σ c with
  | some ti, .int _ n, .int _ m => match ti.und with
   | .slice e => match ctx.ty e with
    | some ei => if 0 ≤ n ∧ n ≤ m ∧ ei.bytes * m ≤ 2 ^ 47 ∧ m ≤ 2 ^ 62 ∧ ei.size ≠ 0 ∧ ei.zero.cells.length = ei.size ∧ ei.zero.storable = true then
      some (.rsl S.length n.toNat, S ++ [.row (List.replicate n.toNat ei.zero) ei.size false]) else none
    | none => none
   | _ => none
  | _, _, _ => none
 | .alloc t => match ctx.ty t with
  | some ti => match ti.und with
   | .array n e => match ctx.ty e with
    | some ei => if sameL0 ti.zero.cells ((List.replicate n ei.zero).flatMap PV.cells) = true ∧ ei.zero.cells.length = ei.size ∧ ti.zero.storable = true then
      some (.ptr S.length 0, S ++ [.row (List.replicate n ei.zero) ei.size false]) else none
    | none => none
   | .struct _ => if PV.same ti.zero (.agg [.nilp, .nils]) = true then some (.ptr S.length 0, S ++ [.bld t false none]) else none
   | _ => none
  | none => none
 | .buildSlice t n ps => match ctx.ty t with
  | some ti => match ti.und with
   | .slice e => match ctx.ty e, buildSlicePV ctx t n (ps.toList.map fun p => (p.1, opd σ p.2)) with
    | some ei, some (.lst xs .full) => some (.rsl S.length xs.length, S ++ [.row xs ei.size false])
    | _, _ => none
   | _ => none
  | none => none
 | .load t a => (loadPV ctx t (opd σ a) S).map fun v => (v, S)
 | .convert s d x => match convPV ctx s d (opd σ x) S with
  | some (.lst xs (.tip _), _) => some (.rsl S.length xs.length, S ++ [.row xs 1 false])
  | _ => none
 | .call c => match c.callee, c.args.toList.map (opd σ) with
  | .builtin .append, s :: x :: _ => match s with
   | .nils => match listOf x with
    | some [] => appendPV ctx c.argTypes .nils x S
    | _ => bornApp ctx c.argTypes x S
   | .emp => match listOf x with
    | some [] => appendPV ctx c.argTypes .emp x S
    | _ => bornApp ctx c.argTypes x S
   | _ => appendPV ctx c.argTypes s x (truncS s S)
  | _, _ => none
 | _ => none
 where
 bornApp (ctx : Ctx) (ts : Array TypeId) (x : PV) (S : List SObj) : Option (PV × List SObj) :=
  match appendPV ctx ts .nils x S with
  | some (.lst xs (.tip _), S1) => match S1[S.length]? with
   | some (.tip _ sz) => some (.rsl S.length xs.length, S ++ [.row xs sz false])
   | _ => none
  | _ => none
/-! The text of a body, as the machine has it -/
structure POp where
 dst : Option Nat
 op : Op
 guard : Option (Nat × Bool)
 /-- What it makes may be written to. -/
 wr : Bool := false
def callV : Op → Option Go.Call
 | .call c => match c.callee with
  | .value _ => some c
  | _ => none
 | _ => none
def purePV (call : Call') (σ : Nat → PV) (c : Go.Call) : Option PV :=
 match c.callee with
 | .value f => match opd σ f with
  | .fn (.func f) [] cap =>
   if cleanL ((c.args.toList.map (opd σ) ++ cap).map PV.strip) then
    match call f ((c.args.toList.map (opd σ) ++ cap).map PV.strip) [] with
    | some (v, _, _) => if v.strip.clean then some v.strip else none
    | none => none
   else none
  | _ => none
 | _ => none
def birthF (ctx : Ctx) (call : Call') (σ : Nat → PV) (S : List SObj) (op : Op) : Option (PV × List SObj) :=
 match callV op with
 | some c => (purePV call σ c).map fun v => (v, S)
 | none => birthPV ctx σ S op
def evStepF (ctx : Ctx) (call : Call') (base : Nat) (σ : Nat → PV) (S : List SObj) (p : POp) : Option (PV × List SObj × Bool) :=
 let (σ1, S1) := frzT (frzArgs ctx σ p.op) σ S
 if p.wr then (birthF ctx call σ1 S1 p.op).map fun (v, S') => (v, S', false) else evStep ctx call base σ1 S1 p.op
inductive PC where
 | skip
 | region (ops : List POp)
 | draw (head tail : List POp)
 | drawC (head tail : List POp)
 | seq (a b : PC)
 | cond (c : Operand) (a b : PC)
 | block (id : Nat) (a : PC)
 | loop (a : PC)
 | exit (id : Nat)
 | ret
 /-- A loop over a map whose rounds may come in whatever order: what is kept is the same. -/
 | mloop (it t1 : Nat) (p2 : List POp) (c : Operand) (keep : List Nat) (p6 p7 : List POp)
def wrOf (m : List Nat) (o : Oper) : Bool := match o.dst with
 | some t => m.contains (1000000 + t)
 | none => false
def popOf (m : List Nat) (ops : Array Oper) (o : Oper) : Option POp :=
 match o.guard with
 | none => some ⟨o.dst, o.op, none, wrOf m o⟩
 | some (j, want) => match (ops[j]?).bind (·.dst) with
  | some t => some ⟨o.dst, o.op, some (t, want), wrOf m o⟩
  | none => none
def popsOf (m : List Nat) (ops : Array Oper) : List Oper → Option (List POp)
 | [] => some []
 | o :: l => match popOf m ops o, popsOf m ops l with
  | some p, some r => some (p :: r)
  | _, _ => none
def aheadOf : List Oper → List Nat → List Nat
 | [], acc => acc
 | o :: l, acc => aheadOf l (acc ++ [o.after.toList.foldl (fun s e => if Region.binds .any e then s ||| 2 ^ e.on ||| acc.getD e.on 0 else s) 0])
def POp.looks (p : POp) : List Nat :=
 p.op.operands.toList.filterMap (fun | .tmp t => some t | _ => none) ++ (match p.guard with | some (t, _) => [t] | none => [])
def drawOk (ops : List Oper) (ps : List POp) (n : Nat) : Bool :=
 let b := aheadOf ops []
 n ≤ ps.length &&
 (ops.zipIdx.all fun (o, i) => o.after.toList.all fun e => !Region.binds .any e || decide (e.on < i)) &&
 ((ps.take n).zipIdx.all fun (p, i) => (ps.take n).zipIdx.all fun (q, j) =>
  i == j || (p.dst.isNone || p.dst != q.dst) && (match q.dst with | some t => !p.looks.contains t || (b.getD i 0).testBit j | none => true)) &&
 ((List.range ps.length).all fun m => decide (m < n) || (List.range m).all fun j => (b.getD m 0).testBit j)
def tailFrom (ops : List Oper) : Nat :=
 let b := aheadOf ops []
 (List.range ops.length).foldl (fun n m => if (List.range m).all (fun j => (b.getD m 0).testBit j) then n else m + 1) 0
def chainedOp : Op → Bool
 | .call c => match c.callee with
  | .value _ => true
  | .invoke _ _ => true
  | .builtin .append => true
  | .builtin .clear => true
  | .builtin _ => false
 | .store _ _ _ => true
 | .alloc _ => true
 | .box _ _ => true
 | .makeMap _ _ => true
 | .mapUpdate _ _ _ _ => true
 | .insert _ _ _ _ => true
 | .mapEntry _ _ _ => true
 | .entryStore _ _ _ _ => true
 | .range _ _ => true
 | .next _ _ => true
 | _ => false
def chained (p : POp) : Bool := match callV p.op with
 | some _ => !p.wr
 | none => p.wr || chainedOp p.op
def indepOp (σ : Nat → PV) : Op → Bool
 | .load _ a => match opd σ a with
  | .iptr _ _ => true
  | _ => false
 | .call c => match c.callee with
  | .builtin .len => match c.args.toList.map (opd σ) with
   | .map _ :: _ => false
   | _ => true
  | .builtin .min => true
  | .builtin .max => true
  | _ => false
 | .store _ _ _ => false
 | .alloc _ => false
 | .box _ _ => false
 | .makeMap _ _ => false
 | .lookup _ _ _ _ => false
 | .mapUpdate _ _ _ _ => false
 | .insert _ _ _ _ => false
 | .mapEntry _ _ _ => false
 | .entryStore _ _ _ _ => false
 | .range _ _ => false
 | .next _ _ => false
 | .entry _ => false
 | _ => true
def notRow : PV → Bool
 | .rsl _ _ => false
 | _ => true
def indep (ctx : Ctx) (σ : Nat → PV) (p : POp) : Bool :=
 (match callV p.op with | some _ => p.wr | none => !p.wr && indepOp (frzT (frzArgs ctx σ p.op) σ []).1 p.op) && (frzArgs ctx σ p.op).all fun x => notRow (opd σ x)
def chainOk (ops : List Oper) (ps : List POp) (n : Nat) : Bool :=
 let b := aheadOf ops []
 (ps.take n).zipIdx.all fun (p, i) => (ps.take n).zipIdx.all fun (q, j) => !(chained p && chained q && decide (j < i)) || (b.getD i 0).testBit j
def keepOf (m : List Nat) : List Nat := m.filterMap fun x => if 3000000 ≤ x then some (x - 3000000) else none
def mloopOf (m : List Nat) (id : Nat) : Code → Option PC
 | .loop (.seq (.region _ hd false) (.seq (.cond c .skip (.exit id')) (.block _ (.seq (.region _ o6 false) (.region _ o7 false))))) =>
  match hd.toList with
  | ⟨some t1, .next (.tmp it) false, _, _, _, none⟩ :: tl =>
   match popsOf m hd tl, popsOf m o6 o6.toList, popsOf m o7 o7.toList with
   | some p2, some p6, some p7 => if id' = id then some (.mloop it t1 p2 c (keepOf m) p6 p7) else none
   | _, _, _ => none
  | _ => none
 | _ => none
def compile (m : List Nat) : Code → Option PC
 | .skip => some .skip
 | .label _ => some .skip
 | .region _ ops false => (popsOf m ops ops.toList).map .region
 | .region id ops true => match popsOf m ops ops.toList with
  | some ps => if drawOk ops.toList ps (tailFrom ops.toList) then
    (if m.contains id then (if chainOk ops.toList ps (tailFrom ops.toList) then some (.drawC (ps.take (tailFrom ops.toList)) (ps.drop (tailFrom ops.toList))) else none)
    else some (.draw (ps.take (tailFrom ops.toList)) (ps.drop (tailFrom ops.toList)))) else none
  | none => none
 | .seq a b => match compile m a, compile m b with
  | some x, some y => some (.seq x y)
  | _, _ => none
 | .cond c a b => match compile m a, compile m b with
  | some x, some y => some (.cond c x y)
  | _, _ => none
 | .block id a => if m.contains (2000000 + id) then mloopOf m id a else (compile m a).map (.block id)
 | .loop a => (compile m a).map .loop
 | .exit id => some (.exit id)
 | .ret => some .ret
 | _ => none
def wantedPV (σ : Nat → PV) : Option (Nat × Bool) → Option Bool
 | none => some true
 | some (t, want) =>
  match σ t with
  | .bool b => some (b == want)
  | .tup [] => some false
  | _ => none
structure Fr where
 ntmps : Nat
 base : Nat
def dstOk (n : Nat) : Option Nat → Bool
 | some d => decide (d < n)
 | none => true
def evOps (ctx : Ctx) (call : Call') (fr : Fr) : List POp → (Nat → PV) → List SObj → Bool → Option ((Nat → PV) × List SObj × Bool)
 | [], σ, S, e => some (σ, S, e)
 | o :: rest, σ, S, e =>
  if dstOk fr.ntmps o.dst then
   match wantedPV σ o.guard with
   | none => none
   | some false => evOps ctx call fr rest (upd σ o.dst (.tup [])) S e
   | some true =>
    match evStepF ctx call fr.base σ S o with
    | none => none
    | some (v, S', e') => evOps ctx call fr rest (upd σ o.dst v) S' (e || e')
  else none
/-! Is the store as it was? (stores) -/
def sameKV : List (PV × PV) → List (PV × PV) → Bool
 | [], [] => true
 | x :: xs, y :: ys => PV.same x.1 y.1 && PV.same x.2 y.2 && sameKV xs ys
 | _, _ => false
def SObj.same : SObj → SObj → Bool
 | .cells a, .cells b => sameL a b
 | .map a, .map b => sameKV a b
 | .tip a b, .tip c d => a == c && b == d
 | .dead, .dead => true
 | .row a b c, .row d e f => sameL a d && b == e && c == f
 | .bld a b c, .bld d e f => a == d && b == e && c == f
 | .buf a b, .buf c d => a == c && b == d
 | .iter a b c, .iter d e f => a == d && b == e && c == f
 | _, _ => false
def sameS : List SObj → List SObj → Bool
 | [], [] => true
 | x :: xs, y :: ys => SObj.same x y && sameS xs ys
 | _, _ => false
def evHead (ctx : Ctx) (call : Call') (fr : Fr) (S : List SObj) : List POp → (Nat → PV) → Option (Nat → PV)
 | [], σ => some σ
 | o :: rest, σ =>
  if dstOk fr.ntmps o.dst then
   match wantedPV σ o.guard with
   | none => none
   | some false => evHead ctx call fr S rest (upd σ o.dst (.tup []))
   | some true =>
    match evStepF ctx call fr.base σ S o with
    | none => none
    | some (v, S', e') => if sameS S' S && !e' then evHead ctx call fr S rest (upd σ o.dst v) else none
  else none
def loadOf (σ : Nat → PV) : Op → Option (TypeId × PV)
 | .load t a => some (t, opd σ a)
 | _ => none
def PendOk (ctx : Ctx) (pend : List (TypeId × PV × PV)) (S : List SObj) : Prop := ∀ q ∈ pend, loadPV ctx q.1 q.2.1 S = some q.2.2
instance decPend (ctx : Ctx) (pend : List (TypeId × PV × PV)) (S : List SObj) : Decidable (PendOk ctx pend S) := List.decidableBAll _ _
def evChain (ctx : Ctx) (call : Call') (fr : Fr) : List POp → List (List SObj) → List (TypeId × PV × PV) → (Nat → PV) → List SObj → Bool → Option ((Nat → PV) × List SObj × Bool)
 | [], _, _, σ, S, e => some (σ, S, e)
 | o :: rest, hist, pend, σ, S, e =>
  if dstOk fr.ntmps o.dst then
   match wantedPV σ o.guard with
   | none => none
   | some false => evChain ctx call fr rest hist pend (upd σ o.dst (.tup [])) S e
   | some true =>
    match evStepF ctx call fr.base σ S o with
    | none => none
    | some (v, S', e') =>
     if chained o then (if PendOk ctx pend S' then evChain ctx call fr rest (S :: hist) pend (upd σ o.dst v) S' (e || e') else none)
     else if sameS S' S && !e' then
      if indep ctx σ o then evChain ctx call fr rest hist pend (upd σ o.dst v) S e
      else match loadOf σ o.op with
       | some (t, a) => if ∀ T ∈ hist, loadPV ctx t a T = some v then evChain ctx call fr rest hist ((t, a, v) :: pend) (upd σ o.dst v) S e else none
       | none => none
     else none
  else none
inductive Ex where
 | normal
 | exit (id : Nat)
 | ret
abbrev St := (Nat → PV) × List SObj × Bool
def rounds (body : St → Option (Ex × St)) : Nat → St → Option (Ex × St)
 | 0, _ => none
 | k + 1, s =>
  match body s with
  | none => none
  | some (.normal, s') => rounds body k s'
  | some (x, s') => some (x, s')
/-! A loop over a map: every order. -/
def mview (it : Nat) (s : St) : Option (Nat × Nat × List Nat × List (PV × PV)) :=
 match s.1 it with
 | .ptr i 0 => match s.2.1[i]? with
  | some (.iter (some id) since seen) => match s.2.1[id]? with
   | some (.map es) => if since = es.length then some (i, id, seen, es) else none
   | _ => none
  | _ => none
 | _ => none
def mround (ctx : Ctx) (call : Call') (fr : Fr) (it t1 : Nat) (p2 : List POp) (c : Operand) (p6 p7 : List POp) (n : Nat) (seen : List Nat) (j : Nat) (s : St) : Option St :=
 match mview it s with
 | some (i, id, seen', es) => if seen' = seen ∧ n = es.length ∧ t1 < fr.ntmps then
   match es[j]? with
   | some kv => match evOps ctx call fr p2 (upd s.1 (some t1) (.tup [.bool true, kv.1, kv.2])) (s.2.1.set i (.iter (some id) n (seen ++ [j]))) s.2.2 with
    | some s1 => match opd s1.1 c with
     | .bool true => match evOps ctx call fr p6 s1.1 s1.2.1 s1.2.2 with
      | some s2 => evOps ctx call fr p7 s2.1 s2.2.1 s2.2.2
      | none => none
     | _ => none
    | none => none
   | none => none
  else none
 | none => none
def mfin (ctx : Ctx) (call : Call') (fr : Fr) (it t1 : Nat) (p2 : List POp) (c : Operand) (n : Nat) (seen : List Nat) (s : St) : Option St :=
 match mview it s with
 | some (i, _, seen', es) => if seen' = seen ∧ n = es.length ∧ t1 < fr.ntmps then
   match evOps ctx call fr p2 (upd s.1 (some t1) (.tup [.bool false])) s.2.1 s.2.2 with
   | some s1 => match opd s1.1 c, s1.2.1[i]? with
    | .bool false, some (.iter _ _ _) => some (s1.1, s1.2.1.set i .dead, s1.2.2)
    | _, _ => none
   | none => none
  else none
 | none => none
def sameSt (keep : List Nat) (s r : St) : Bool := sameS s.2.1 r.2.1 && keep.all fun t => PV.same (s.1 t) (r.1 t)
def agree (keep : List Nat) (r : St) : Option St → Bool
 | some r' => sameSt keep r' r
 | none => false
def allM (step : List Nat → Nat → St → Option St) (fin : List Nat → St → Option St) (keep : List Nat) (n : Nat) : Nat → List Nat → St → Option St
 | 0, _, _ => none
 | k + 1, seen, s => match (List.range n).filter fun j => !seen.contains j with
  | [] => fin seen s
  | j0 :: js => match (step seen j0 s).bind (allM step fin keep n k (seen ++ [j0])) with
   | none => none
   | some r => if js.all fun j => agree keep r ((step seen j s).bind (allM step fin keep n k (seen ++ [j]))) then some r else none
def normM (keep : List Nat) (s : St) : St := (fun t => if keep.contains t then s.1 t else .poison, s.2.1, true)
def evCode (ctx : Ctx) (call : Call') (fr : Fr) (k : Nat) : PC → St → Option (Ex × St)
 | .skip, s => some (.normal, s)
 | .region ops, s =>
  match evOps ctx call fr ops s.1 s.2.1 s.2.2 with
  | some s' => some (.normal, s')
  | none => none
 | .draw hd tl, s =>
  match evHead ctx call fr s.2.1 hd s.1 with
  | some σ =>
   match evOps ctx call fr tl σ s.2.1 s.2.2 with
   | some s' => some (.normal, s')
   | none => none
  | none => none
 | .drawC hd tl, s =>
  match evChain ctx call fr hd [] [] s.1 s.2.1 s.2.2 with
  | some s1 =>
   match evOps ctx call fr tl s1.1 s1.2.1 s1.2.2 with
   | some s' => some (.normal, s')
   | none => none
  | none => none
 | .seq a b, s =>
  match evCode ctx call fr k a s with
  | some (.normal, s') => evCode ctx call fr k b s'
  | r => r
 | .cond c a b, s =>
  match opd s.1 c with
  | .bool true => evCode ctx call fr k a s
  | .bool false => evCode ctx call fr k b s
  | _ => none
 | .block id c, s =>
  match evCode ctx call fr k c s with
  | some (.exit i, s') => some (if i = id then .normal else .exit i, s')
  | r => r
 | .loop c, s => rounds (evCode ctx call fr k c) k s
 | .exit id, s => some (.exit id, s)
 | .ret, s => some (.ret, s)
 | .mloop it t1 p2 c keep p6 p7, s =>
  match mview it s with
  | some (_, _, [], es) => (allM (mround ctx call fr it t1 p2 c p6 p7 es.length) (mfin ctx call fr it t1 p2 c es.length) keep es.length (es.length + 1) [] s).map fun r => (.normal, normM keep r)
  | _ => none
structure PFn where
 ntmps : Nat
 results : List ResultVar
 body : PC
 /-- Are rows that may be written to handed on as such? -/
 raw : Bool := false
structure Env where
 ctx : Ctx
 fn : FuncId → Option PFn
 intr : FuncId → Option (List PV → List SObj → Option (PV × List SObj × Bool))
def resultOf (ctx : Ctx) (S : List SObj) (σ : Nat → PV) : ResultVar → Option PV
 | .tmp t => some (σ t)
 | .cell a t => loadPV ctx t (σ a) S
def resultsOf (ctx : Ctx) (S : List SObj) (σ : Nat → PV) : List ResultVar → Option (List PV)
 | [] => some []
 | r :: rs => match resultOf ctx S σ r, resultsOf ctx S σ rs with
  | some x, some xs => some (x :: xs)
  | _, _ => none
def tupled : List PV → PV
 | [x] => x
 | xs => .tup xs
def leave (base : Nat) (v : PV) (S : List SObj) (e : Bool) : PV × List SObj × Bool :=
 if e = false ∧ v.strip.clean = true then (v.strip, S.take base, false) else (v, S, e)
def runBody (ctx : Ctx) (call : Call') (k : Nat) (pf : PFn) (args : List PV) (S : List SObj) : Option (PV × List SObj × Bool) :=
 match evCode ctx call ⟨pf.ntmps, S.length⟩ k pf.body (fun i => args.getD i (.tup []), S, false) with
 | some (.exit _, _) => none
 | some (_, (σ, S', e)) =>
  match resultsOf ctx S' σ pf.results with
  | some vs => if pf.raw then some (tupled vs, S', e) else some (tupled (frzL vs S').1, (frzL vs S').2, e)
  | none => none
 | none => none
def ev (env : Env) : Nat → FuncId → List PV → List SObj → Option (PV × List SObj × Bool)
 | 0, _, _, _ => none
 | k + 1, f, args, S =>
  match env.intr f with
  | some h => h args S
  | none =>
   match env.fn f with
   | none => none
   | some pf =>
    if args.length ≤ pf.ntmps then
     if cleanL (args.map PV.strip) then
      match runBody env.ctx (ev env k) k pf (args.map PV.strip) [] with
      | some (v, _, _) =>
       if v.strip.clean then some (v.strip, S, false) else
        match runBody env.ctx (ev env k) k pf args S with
        | some (v, S', e) => some (leave S.length v S' e)
        | none => none
      | none => none
     else
      match runBody env.ctx (ev env k) k pf args S with
      | some (v, S', e) => some (leave S.length v S' e)
      | none => none
    else none
end Go.Pam
namespace Go.Pam
open Go.RowKit
structure TyOk (P : Program) (t : TypeId) (ti : TyI) : Prop where
 und : P.underlying t = some ti.und
 info : ∃ i z, P.info? t = some i ∧ i.size = ti.size ∧ i.bytes = ti.bytes ∧ i.zero = some z ∧ absV z = some ti.zero ∧ z.cells.size = ti.zero.cells.length ∧
  i.comparable = ti.comp ∧ i.methods.toList = ti.methods
 eqok : ti.eqok = true → P.eqGuardType P.depth t = false ∧ P.stoodInHeld t = false
section inv
variable {g : G} {w : World} {n : Nat} {v : Value}
theorem V.inv_bool {b : Bool} (h : V g w n (.bool b) v) : v = .bool b := by cases h; rfl
theorem V.inv_int {k : IntKind} {i : Int} (h : V g w n (.int k i) v) : v = .int k i := by cases h; rfl
theorem V.inv_str {l : List UInt8} (h : V g w n (.str l) v) : ∃ s : ByteArray, v = .string s ∧ s.data.toList = l := by
 generalize hx : PV.str l = x at h
 cases h with
 | str s => exact ⟨s, rfl, by injection hx with hx; exact hx.symm⟩
 | _ => cases hx
theorem V.inv_nilp (h : V g w n .nilp v) : v = .pointer none := by cases h; rfl
theorem V.inv_ptr {id off : Nat} (h : V g w n (.ptr id off) v) : v = .pointer (some ⟨g.loc id, off, none⟩) ∧ id < n ∧ g.obj id = true := by
 cases h with
 | ptr _ _ h1 h2 => exact ⟨rfl, h1, h2⟩
theorem V.inv_iptr {cs : List PV} {off : Nat} (h : V g w n (.iptr cs off) v) : ∃ b o, ∃ u : Nat → Value, v = .pointer (some ⟨b, o + off, none⟩) ∧
  (∀ (j : Nat) (c : PV), cs[j]? = some c → o + j < g.pp b) ∧ (∀ (j : Nat) (c : PV), cs[j]? = some c → w.cell? ⟨b, o + j, none⟩ = some (u j)) ∧
  (∀ (j : Nat) (c : PV), cs[j]? = some c → V g w n c (u j)) ∧ (∀ (j : Nat), j < cs.length → (u j).oneCell' = true) := by
 cases h with
 | iptr _ _ b o u h1 h2 h3 h4 => exact ⟨b, o, u, rfl, h1, h2, h3, h4⟩
theorem V.inv_nils (h : V g w n .nils v) : v = .slice none 0 0 := by cases h; rfl
theorem V.inv_lst {xs : List PV} {tag : Tag} (h : V g w n (.lst xs tag) v) : (xs = [] ∧ tag = .none ∧ ∃ a, v = .slice (some a) 0 0) ∨ ∃ b o cap sz, ∃ u : Nat → Nat → Value, v = .slice (some ⟨b, o, none⟩) xs.length cap ∧ xs.length ≤ cap ∧
  (∀ (i : Nat) (x : PV), xs[i]? = some x → x.cells.length = sz) ∧
  (∀ (i : Nat) (x : PV) (j : Nat) (c : PV), xs[i]? = some x → x.cells[j]? = some c → o + i * sz + j < g.pp b) ∧
  (∀ (i : Nat) (x : PV) (j : Nat) (c : PV), xs[i]? = some x → x.cells[j]? = some c → w.cell? ⟨b, o + i * sz + j, none⟩ = some (u i j)) ∧
  (∀ (i : Nat) (x : PV) (j : Nat) (c : PV), xs[i]? = some x → x.cells[j]? = some c → V g w n c (u i j)) ∧
  (∀ (i : Nat) (x : PV) (j : Nat), xs[i]? = some x → j < sz → (u i j).oneCell' = true) ∧ TagOk g w n tag b o xs.length cap sz := by
 cases h with
 | lst _ _ b o cap sz u hc h1 h2 h3 h4 h5 ht => exact .inr ⟨b, o, cap, sz, u, rfl, hc, h1, h2, h3, h4, h5, ht⟩
 | lst0 a => exact .inl ⟨rfl, rfl, a, rfl⟩
theorem V.inv_hsl {id off len : Nat} (h : V g w n (.hsl id off len) v) : ∃ cap, v = .slice (some ⟨g.loc id, off, none⟩) len cap ∧ len ≤ cap ∧ id < n ∧ g.obj id = true := by
 cases h with
 | hsl _ _ _ cap h1 h2 h3 => exact ⟨cap, rfl, h3, h1, h2⟩
theorem V.inv_emp (h : V g w n .emp v) : ∃ a, v = .slice (some a) 0 0 := by
 cases h with
 | emp a => exact ⟨a, rfl⟩
theorem V.inv_rsl {id len : Nat} (h : V g w n (.rsl id len) v) : v = .slice (some ⟨g.loc id, 0, none⟩) len (g.hw id) ∧ len ≤ g.hw id ∧ id < n ∧ g.obj id = true := by
 cases h with
 | rsl _ _ h1 h2 h3 => exact ⟨rfl, h3, h1, h2⟩
theorem V.inv_nilm (h : V g w n .nilm v) : v = .map none := by cases h; rfl
theorem V.inv_map {id : Nat} (h : V g w n (.map id) v) : v = .map (some (g.loc id)) ∧ id < n ∧ g.obj id = true := by
 cases h with
 | map _ h1 h2 => exact ⟨rfl, h1, h2⟩
theorem V.inv_nilf (h : V g w n .nilf v) : v = .nilFunc := by cases h; rfl
theorem V.inv_fn {f : Fn} {as bs : List PV} (h : V g w n (.fn f as bs) v) : ∃ as' bs' : Array Value, v = .func f as' bs' ∧ as.length = as'.size ∧ bs.length = bs'.size ∧
  (∀ (i : Nat) (c : PV), as[i]? = some c → V g w n c (as'.getD i undef)) ∧ (∀ (i : Nat) (c : PV), bs[i]? = some c → V g w n c (bs'.getD i undef)) := by
 cases h with
 | fn _ _ _ as' bs' h1 h2 h3 h4 => exact ⟨as', bs', rfl, h1, h2, h3, h4⟩
theorem V.inv_nili (h : V g w n .nili v) : v = .nilIface := by cases h; rfl
theorem V.inv_ifc {t : TypeId} {x : PV} (h : V g w n (.ifc t x) v) : ∃ x', v = .iface t x' ∧ V g w n x x' := by
 cases h with
 | ifc _ _ x' h1 => exact ⟨x', rfl, h1⟩
theorem V.inv_agg {cs : List PV} (h : V g w n (.agg cs) v) : ∃ cs' : Array Value, v = .agg cs' ∧ cs.length = cs'.size ∧ (∀ (i : Nat) (c : PV), cs[i]? = some c → V g w n c (cs'.getD i undef)) ∧
  (∀ v ∈ cs', v.oneCell' = true) := by
 cases h with
 | agg _ cs' h1 h2 h3 => exact ⟨cs', rfl, h1, h2, h3⟩
theorem V.inv_tup {cs : List PV} (h : V g w n (.tup cs) v) : ∃ cs' : Array Value, v = .tuple cs' ∧ cs.length = cs'.size ∧ (∀ (i : Nat) (c : PV), cs[i]? = some c → V g w n c (cs'.getD i undef)) := by
 cases h with
 | tup _ cs' h1 h2 => exact ⟨cs', rfl, h1, h2⟩
end inv
theorem V.storable {g : G} {w : World} {n : Nat} {x : PV} {v : Value} (h : V g w n x v) (hs : x.storable = true) :
  v.cells.size = x.cells.length ∧ (∀ (i : Nat) (c : PV), x.cells[i]? = some c → V g w n c (v.cells.getD i undef)) ∧ (∀ u ∈ v.cells, u.oneCell' = true) := by
 have one : ∀ (y : PV) (u : Value), V g w n y u → u.oneCell' = true → y.cells = [y] → v.cells = #[u] → x.cells = [y] →
   v.cells.size = x.cells.length ∧ (∀ (i : Nat) (c : PV), x.cells[i]? = some c → V g w n c (v.cells.getD i undef)) ∧ (∀ u ∈ v.cells, u.oneCell' = true) := by
  intro y u hy hu _ hv hx
  rw [hv, hx]
  refine ⟨rfl, fun i c hc => ?_, fun z hz => ?_⟩
  ·cases i with
   | zero => simp at hc; subst hc; exact hy
   | succ i => simp at hc
  ·have : z = u := by simpa using hz
   subst this; exact hu
 cases h with
 | poison => simp [PV.storable] at hs
 | tup => simp [PV.storable] at hs
 | agg cs cs' h1 h2 h3 => exact ⟨h1.symm, h2, h3⟩
 | bool b => exact one _ _ (.bool b) rfl rfl rfl rfl
 | int k i => exact one _ _ (.int k i) rfl rfl rfl rfl
 | str s => exact one _ _ (.str s) rfl rfl rfl rfl
 | nilp => exact one _ _ .nilp rfl rfl rfl rfl
 | ptr id off h1 h2 => exact one _ _ (.ptr id off h1 h2) rfl rfl rfl rfl
 | iptr cs off b o u h1 h2 h3 h4 => exact one _ _ (.iptr cs off b o u h1 h2 h3 h4) rfl rfl rfl rfl
 | nils => exact one _ _ .nils rfl rfl rfl rfl
 | lst xs tag b o cap sz u hc h1 h2 h3 h4 h5 ht => exact one _ _ (.lst xs tag b o cap sz u hc h1 h2 h3 h4 h5 ht) rfl rfl rfl rfl
 | lst0 a => exact one _ _ (.lst0 a) rfl rfl rfl rfl
 | hsl id off len cap h1 h2 h3 => exact one _ _ (.hsl id off len cap h1 h2 h3) rfl rfl rfl rfl
 | emp a => exact one _ _ (.emp a) rfl rfl rfl rfl
 | rsl id len h1 h2 h3 => exact one _ _ (.rsl id len h1 h2 h3) rfl rfl rfl rfl
 | nilm => exact one _ _ .nilm rfl rfl rfl rfl
 | map id h1 h2 => exact one _ _ (.map id h1 h2) rfl rfl rfl rfl
 | nilf => exact one _ _ .nilf rfl rfl rfl rfl
 | fn f as bs as' bs' h1 h2 h3 h4 => exact one _ _ (.fn f as bs as' bs' h1 h2 h3 h4) rfl rfl rfl rfl
 | nili => exact one _ _ .nili rfl rfl rfl rfl
 | ifc t x x' h => exact one _ _ (.ifc t x x' h) rfl rfl rfl rfl
/-! Values of the text -/
theorem absV1_sound (g : G) (w : World) (n : Nat) {v : Value} {x : PV} (h : absV1 v = some x) : V g w n x v ∧ v.oneCell' = true := by
 unfold absV1 at h
 split at h
 ·injection h with h; subst h; exact ⟨.bool _, rfl⟩
 ·injection h with h; subst h; exact ⟨.int _ _, rfl⟩
 ·injection h with h; subst h; exact ⟨.str _, rfl⟩
 ·injection h with h; subst h; exact ⟨.nilp, rfl⟩
 ·injection h with h; subst h; exact ⟨.nils, rfl⟩
 ·injection h with h; subst h; exact ⟨.nilm, rfl⟩
 ·injection h with h; subst h; exact ⟨.nilf, rfl⟩
 ·injection h with h; subst h; exact ⟨.nili, rfl⟩
 ·split at h
  ·rename_i hz
   injection h with h; subst h
   exact ⟨.fn _ [] [] _ _ hz.1.symm hz.2.symm (fun i c hc => by simp at hc) (fun i c hc => by simp at hc), rfl⟩
  ·cases h
 ·cases h
theorem absL_sound (g : G) (w : World) (n : Nat) : ∀ (vs : List Value) (xs : List PV), absL absV1 vs = some xs → xs.length = vs.length ∧
  (∀ (i : Nat) (c : PV), xs[i]? = some c → V g w n c (vs.getD i undef)) ∧ (∀ v ∈ vs, v.oneCell' = true)
 | [], xs, h => by
  simp [absL] at h; subst h
  exact ⟨rfl, fun i c hc => by simp at hc, fun v hv => by simp at hv⟩
 | v :: vs, xs, h => by
  simp only [absL] at h
  split at h
  ·rename_i x xs' h1 h2
   injection h with h; subst h
   obtain ⟨i1, i2, i3⟩ := absL_sound g w n vs xs' h2
   obtain ⟨j1, j2⟩ := absV1_sound g w n h1
   refine ⟨by simp [i1], fun i c hc => ?_, fun u hu => ?_⟩
   ·cases i with
    | zero => simp at hc; subst hc; exact j1
    | succ i => simpa using i2 i c (by simpa using hc)
   ·rcases List.mem_cons.1 hu with rfl | hu
    ·exact j2
    ·exact i3 u hu
  ·cases h
theorem getD_toList (a : Array Value) (i : Nat) : a.toList.getD i undef = a.getD i undef := by
 rw [List.getD_eq_getElem?_getD, Array.getD_eq_getD_getElem?, Array.getElem?_toList]
theorem absV_sound (g : G) (w : World) (n : Nat) {v : Value} {x : PV} (h : absV v = some x) : V g w n x v := by
 unfold absV at h
 split at h
 ·rename_i t v
  cases h1 : absV1 v with
  | none => simp [h1] at h
  | some y =>
   simp [h1] at h; subst h
   exact .ifc t y v (absV1_sound g w n h1).1
 ·rename_i cs
  cases h1 : absL absV1 cs.toList with
  | none => simp [h1] at h
  | some y =>
   simp [h1] at h; subst h
   obtain ⟨i1, i2, i3⟩ := absL_sound g w n _ _ h1
   exact .agg y cs (by simpa using i1) (fun i c hc => by rw [← getD_toList]; exact i2 i c hc) (fun u hu => i3 u (by simpa using hu))
 ·rename_i cs
  cases h1 : absL absV1 cs.toList with
  | none => simp [h1] at h
  | some y =>
   simp [h1] at h; subst h
   obtain ⟨i1, i2, i3⟩ := absL_sound g w n _ _ h1
   exact .tup y cs (by simpa using i1) (fun i c hc => by rw [← getD_toList]; exact i2 i c hc)
 ·exact (absV1_sound g w n h).1
/-! What the tables say -/
section ty
variable {P : Program} {t : TypeId} {ti : TyI}
theorem TyOk.run_und (h : TyOk P t ti) (w : World) : (underlying t).run P w = .ok ti.und w := run_underlying h.und w
theorem TyOk.run_size (h : TyOk P t ti) (w : World) : (sizeOf t).run P w = .ok ti.size w := by
 obtain ⟨i, z, h1, h2, _⟩ := h.info
 simp [sizeOf, typeInfo, h1, h2]
theorem TyOk.run_isAgg (h : TyOk P t ti) (w : World) : (isAgg t).run P w = .ok ti.agg w := by
 simp only [isAgg, Sem.run_bind, h.run_und, Result.andThen_ok, TyI.agg]
 split <;> simp_all
theorem TyOk.run_zero (h : TyOk P t ti) (w : World) : ∃ z, (zeroValue t).run P w = .ok z w ∧ absV z = some ti.zero ∧ z.cells.size = ti.zero.cells.length := by
 obtain ⟨i, z, h1, _, _, h4, h5, h6, _⟩ := h.info
 exact ⟨z, by simp [zeroValue, typeInfo, h1, h4], h5, h6⟩
end ty
structure CtxTy (P : Program) (ctx : Ctx) : Prop where
 ty : ∀ t ti, ctx.ty t = some ti → TyOk P t ti
theorem part_sound {P : Program} {ctx : Ctx} (hc : CtxTy P ctx) {g : G} {w : World} {n : Nat} {t : TypeId} {cs : List PV} {cs' : Array Value} {off : Nat} {x : PV}
  (hl : cs.length = cs'.size) (hV : ∀ (i : Nat) (c : PV), cs[i]? = some c → V g w n c (cs'.getD i undef)) (h1 : ∀ v ∈ cs', v.oneCell' = true)
  (h : partOf ctx t cs off = some x) : ∃ v, (part t cs' off).run P w = .ok v w ∧ V g w n x v := by
 unfold partOf at h
 split at h
 ·cases h
 rename_i ti hti
 have ht := hc.ty _ _ hti
 simp only [part, Sem.run_bind, ht.run_isAgg, Result.andThen_ok]
 split at h
 ·rename_i hagg
  split at h
  ·rename_i hle
   injection h with h; subst h
   simp only [hagg, if_true, Sem.run_bind, ht.run_size, Result.andThen_ok, Sem.run_pure]
   refine ⟨_, rfl, .agg _ _ (by simp; omega) (fun i c hic => ?_) (fun v hv => ?_)⟩
   ·rw [List.getElem?_take, List.getElem?_drop] at hic
    split at hic
    ·have := hV _ c hic
     rw [Array.getD_eq_getD_getElem?] at this ⊢
     rw [Array.getElem?_extract, if_pos (by omega)]
     exact this
    ·cases hic
   ·rw [Array.mem_iff_getElem] at hv
    obtain ⟨i, hi, rfl⟩ := hv
    rw [Array.getElem_extract]
    exact h1 _ (Array.getElem_mem _)
  ·cases h
 ·rename_i hagg
  simp only [hagg, Bool.false_eq_true, if_false]
  have hlt : off < cs'.size := by
   have := (List.getElem?_eq_some_iff.1 h).1; omega
  have hv := hV off x h
  rw [Array.getD_eq_getD_getElem?, Array.getElem?_eq_getElem hlt] at hv
  exact ⟨cs'[off], by simp [Array.getElem?_eq_getElem hlt], hv⟩
theorem loadVar_sound {P : Program} {ctx : Ctx} (hc : CtxTy P ctx) {g : G} {w : World} {n : Nat} {t : TypeId} {cs : List PV} {b o off : Nat} {u : Nat → Value} {x : PV}
  (hcell : ∀ (j : Nat) (c : PV), cs[j]? = some c → w.cell? ⟨b, o + j, none⟩ = some (u j)) (hV : ∀ (j : Nat) (c : PV), cs[j]? = some c → V g w n c (u j))
  (h1 : ∀ (j : Nat), j < cs.length → (u j).oneCell' = true) (h : partOf ctx t cs off = some x) :
  ∃ v, (loadVar t ⟨b, o + off, none⟩).run P w = .ok v w ∧ V g w n x v := by
 unfold partOf at h
 split at h
 ·cases h
 rename_i ti hti
 have ht := hc.ty _ _ hti
 simp only [loadVar, Sem.run_bind, ht.run_isAgg, Result.andThen_ok]
 have cell : ∀ j, off + j < cs.length → w.cell? ((⟨b, o + off, none⟩ : Addr).add j) = some (u (off + j)) := by
  intro j hj
  have := hcell (off + j) cs[off + j] (List.getElem?_eq_getElem hj)
  unfold Addr.add
  split
  ·subst_vars; simpa using this
  ·simpa [Nat.add_assoc] using this
 split at h
 ·rename_i hagg
  split at h
  ·rename_i hle
   injection h with h; subst h
   simp only [hagg, if_true, Sem.run_bind, ht.run_size, Result.andThen_ok]
   rw [run_loadCells w _ _ (fun j => u (off + j)) (fun j hj => cell j (by omega))]
   simp only [Result.andThen_ok, Sem.run_pure]
   refine ⟨_, rfl, .agg _ _ (by simp; omega) (fun i c hic => ?_) (fun v hv => ?_)⟩
   ·rw [List.getElem?_take, List.getElem?_drop] at hic
    split at hic
    ·rename_i hi
     have := hV _ c hic
     rw [Array.getD_eq_getD_getElem?]
     simpa [hi] using this
    ·cases hic
   ·simp only [List.mem_toArray, List.mem_map, List.mem_range] at hv
    obtain ⟨j, hj, rfl⟩ := hv
    exact h1 _ (by omega)
  ·cases h
 ·rename_i hagg
  simp only [hagg, Bool.false_eq_true, if_false]
  have hlt : off < cs.length := (List.getElem?_eq_some_iff.1 h).1
  have hce := hcell off x h
  exact ⟨u off, by simp [hce], hV off x h⟩
section
variable {g : G} {w : World} {n : Nat}
theorem V.strip1 {x : PV} {v : Value} (h : V g w n x v) : V g w n x.strip1 v := by
 unfold PV.strip1
 split
 ·rcases h.inv_lst with ⟨rfl, rfl, a, rfl⟩ | ⟨b, o, cap, sz, u, rfl, h0, h1, h2, h3, h4, h5, _⟩
  ·exact .lst0 a
  exact .lst _ .none b o cap sz u h0 h1 h2 h3 h4 h5 trivial
 ·exact h
theorem V.strip2 {x : PV} {v : Value} (h : V g w n x v) : V g w n x.strip2 v := by
 unfold PV.strip2
 split
 ·exact h.strip1
 ·obtain ⟨cs', rfl, h1, h2, h3⟩ := h.inv_agg
  refine .agg _ cs' (by simpa using h1) (fun i c hi => ?_) h3
  rw [List.getElem?_map] at hi
  cases hc : (‹List PV›)[i]? with
  | none => simp [hc] at hi
  | some d => simp [hc] at hi; subst hi; exact (h2 i d hc).strip1
 ·obtain ⟨x', rfl, h1⟩ := h.inv_ifc
  exact .ifc _ _ x' h1.strip1
 ·exact h
theorem V.strip {x : PV} {v : Value} (h : V g w n x v) : V g w n x.strip v := by
 unfold PV.strip
 split
 ·exact h.strip1
 ·obtain ⟨cs', rfl, h1, h2, h3⟩ := h.inv_agg
  refine .agg _ cs' (by simpa using h1) (fun i c hi => ?_) h3
  rw [List.getElem?_map] at hi
  cases hc : (‹List PV›)[i]? with
  | none => simp [hc] at hi
  | some d => simp [hc] at hi; subst hi; exact (h2 i d hc).strip1
 ·obtain ⟨x', rfl, h1⟩ := h.inv_ifc
  exact .ifc _ _ x' h1.strip2
 ·obtain ⟨cs', rfl, h1, h2⟩ := h.inv_tup
  refine .tup _ cs' (by simpa using h1) (fun i c hi => ?_)
  rw [List.getElem?_map] at hi
  cases hc : (‹List PV›)[i]? with
  | none => simp [hc] at hi
  | some d => simp [hc] at hi; subst hi; exact (h2 i d hc).strip2
 ·exact h
theorem strip_cells_len (x : PV) : x.strip.cells.length = x.cells.length := by
 unfold PV.strip
 split <;> simp [PV.cells]
theorem strip_storable {x : PV} (h : x.storable = true) : x.strip.storable = true := by
 unfold PV.strip
 split <;> first | rfl | exact h | simp_all [PV.storable]
end
end Go.Pam
namespace Go.Pam
open Go.RowKit
def Slots (g : G) (w : World) (n : Nat) (σ : Nat → PV) (tmps : Array Value) : Prop := ∀ i, V g w n (σ i) (tmps.getD i undef)
theorem Slots.evo {n : Nat} {g g' : G} {w w' : World} {σ : Nat → PV} {tmps : Array Value} (h : Slots g w n σ tmps) (e : Evo n g w g' w') : Slots g' w' n σ tmps := fun i => (h i).evo e
theorem Slots.mono {n m : Nat} {g : G} {w : World} {σ : Nat → PV} {tmps : Array Value} (h : Slots g w n σ tmps) (hm : n ≤ m) : Slots g w m σ tmps := fun i => (h i).mono hm
theorem opd_sound {g : G} {w : World} {n : Nat} {σ : Nat → PV} {a : Act} (h : Slots g w n σ a.tmps) (x : Operand) : V g w n (opd σ x) (a.eval x) := by
 cases x with
 | tmp t => exact h t
 | const v =>
  simp only [opd, Act.eval]
  cases hv : absV v with
  | none => exact .poison v
  | some x => exact absV_sound g w n hv
 | global i => exact .poison _
 | func f => exact .fn _ [] [] _ _ rfl rfl (fun i c hc => by simp at hc) (fun i c hc => by simp at hc)
theorem Slots.put {n : Nat} {g : G} {w : World} {σ : Nat → PV} {a : Act} (h : Slots g w n σ a.tmps) {d : Option Nat} (hd : ∀ i, d = some i → i < a.tmps.size) {x : PV} {v : Value}
  (hv : V g w n x v) : Slots g w n (upd σ d x) (a.put d v).tmps := by
 cases d with
 | none => exact h
 | some d =>
  intro i
  simp only [upd, Act.put]
  rw [Array.getD_eq_getD_getElem?]
  by_cases hi : i = d
  ·subst hi
   rw [if_pos rfl, Array.getElem?_setIfInBounds_self, if_pos (hd i rfl)]
   exact hv
  ·rw [if_neg hi, Array.getElem?_setIfInBounds_ne (Ne.symm hi), ← Array.getD_eq_getD_getElem?]
   exact h i
theorem size_put (a : Act) (d : Option Nat) (v : Value) : (a.put d v).tmps.size = a.tmps.size := by
 cases d <;> simp [Act.put]
theorem R.weaken {S : List SObj} {w : World} {g : G} {base : Nat} {bd : Nat → Nat} (h : R S w g base bd) : R S w g 0 bd :=
 ⟨Nat.zero_le _, fun id hi => by omega, h.hfix, h.hpp, fun id o hi => by
  have := h.live id o hi
  have hle := lim_le h id
  simpa [lim] using this.mono hle, h.inj⟩
def Good (base : Nat) (bd : Nat → Nat) (S : List SObj) (g : G) (w : World) (x : PV) (S' : List SObj) (e : Bool) (v : Value) (w' : World) : Prop :=
 ∃ g', V g' w' S'.length x v ∧ R S' w' g' (if e then 0 else base) bd ∧ Evo S.length g w g' w' ∧ S.length ≤ S'.length
section
variable {P : Program} {ctx : Ctx} {S : List SObj} {g : G} {w : World} {base : Nat} {bd : Nat → Nat} {σ : Nat → PV} {a : Act}
theorem Good.same (hR : R S w g base bd) {x : PV} {v : Value} (hv : V g w S.length x v) : Good base bd S g w x S false v w :=
 ⟨g, hv, by simpa using hR, Evo.refl _ _ _, Nat.le_refl _⟩
theorem step_load (hc : CtxTy P ctx) (hR : R S w g base bd) (hs : Slots g w S.length σ a.tmps) {t : TypeId} {p : Operand} {x : PV} (h : loadPV ctx t (opd σ p) S = some x) :
  ∃ v, (Instr.loadAt t (a.eval p)).run P w = .ok v w ∧ V g w S.length x v := by
 have hp := opd_sound hs p
 unfold loadPV at h
 split at h
 ·rename_i id off hop
  rw [hop] at hp
  obtain ⟨hv, hid, _⟩ := hp.inv_ptr
  split at h
  ·rename_i cs hcs
   obtain ⟨l1, l2, l3, cur, e, l4, l5, l7, l6⟩ := hR.live id _ hcs
   have hle := lim_le hR id
   rw [hv]
   simp only [Instr.loadAt, Instr.sureAddr, Sem.run_bind, Sem.run_pure, Result.andThen_ok]
   have := loadVar_sound (P := P) (w := w) (n := S.length) hc (b := g.loc id) (o := 0) (u := fun j => cur.getD j undef) (cs := cs) (off := off) (x := x) (t := t) (g := g)
    (fun j c hj => by
     have hjl : j < cur.size := by have := (List.getElem?_eq_some_iff.1 hj).1; omega
     simp [World.cell?, l4, hjl])
    (fun j c hj => (l6 j c hj).mono hle) ?_ h
   ·simpa using this
   ·intro j hj
    simp only [Array.getD_eq_getD_getElem?, Array.getElem?_eq_getElem (show j < cur.size by omega), Option.getD_some]
    exact l7 _ (Array.getElem_mem _)
  ·rename_i xs sz fz hcs
   obtain ⟨l1, l2, l3, cur, e, fr, l4, l5, l6, l7, l8, l9, l10⟩ := hR.live id _ hcs
   have hle := lim_le hR id
   cases hx : xs[off / sz]? with
   | none => rw [hx] at h; cases h
   | some y =>
   rw [hx] at h
   have h : partOf ctx t y.cells (off % sz) = some x := h
   have hi : off / sz < xs.length := (List.getElem?_eq_some_iff.1 hx).1
   have hy := l9 _ _ hx
   have hdm : off / sz * sz + off % sz = off := by rw [Nat.mul_comm]; exact Nat.div_add_mod off sz
   have hin : ∀ j, j < y.cells.length → off / sz * sz + j < cur.size := by
    intro j hj
    rw [l6]
    have : (off / sz + 1) * sz ≤ g.hw id * sz := Nat.mul_le_mul_right _ (by omega)
    rw [Nat.add_mul] at this; omega
   rw [hv]
   simp only [Instr.loadAt, Instr.sureAddr, Sem.run_bind, Sem.run_pure, Result.andThen_ok]
   have := loadVar_sound (P := P) (w := w) (n := S.length) hc (b := g.loc id) (o := off / sz * sz) (u := fun j => cur.getD (off / sz * sz + j) undef) (cs := y.cells) (off := off % sz) (x := x) (t := t) (g := g)
    (fun j c hj => by
     have hjl := hin j (List.getElem?_eq_some_iff.1 hj).1
     simp [World.cell?, l4, hjl])
    (fun j c hj => (l10 _ _ j c hx hj).mono hle) ?_ h
   ·rw [hdm] at this; exact this
   ·intro j hj
    simp only [Array.getD_eq_getD_getElem?, Array.getElem?_eq_getElem (hin j hj), Option.getD_some]
    exact l7 _ (Array.getElem_mem _)
  ·cases h
 ·rename_i cs off hop
  rw [hop] at hp
  obtain ⟨b, o, u, hv, h1, h2, h3, h4⟩ := hp.inv_iptr
  rw [hv]
  simp only [Instr.loadAt, Instr.sureAddr, Sem.run_bind, Sem.run_pure, Result.andThen_ok]
  exact loadVar_sound hc h2 h3 h4 h
 ·cases h
end
theorem splice_get {cs xs : List PV} {off : Nat} (hle : off + xs.length ≤ cs.length) (j : Nat) :
  (cs.take off ++ xs ++ cs.drop (off + xs.length))[j]? = if j < off then cs[j]? else if j < off + xs.length then xs[j - off]? else cs[j]? := by
 have hl : (cs.take off).length = off := by simp; omega
 split
 ·rename_i hj
  rw [List.append_assoc, List.getElem?_append_left (by omega), List.getElem?_take, if_pos hj]
 ·rename_i hj
  rw [List.append_assoc, List.getElem?_append_right (by omega), hl]
  split
  ·rw [List.getElem?_append_left (by omega)]
  ·rw [List.getElem?_append_right (by omega), List.getElem?_drop]
   congr 1
   omega
theorem splice_len {cs xs : List PV} {off : Nat} (hle : off + xs.length ≤ cs.length) : (cs.take off ++ xs ++ cs.drop (off + xs.length)).length = cs.length := by
 simp; omega
theorem R.setRow {S : List SObj} {w : World} {g : G} {base : Nat} {bd : Nat → Nat} (h : R S w g base bd) {id : Nat} {cs xs : List PV} (hs : S[id]? = some (.cells cs)) {off : Nat} {vs : List Value}
  (hle : off + xs.length ≤ cs.length) (hl : xs.length = vs.length) (hV : ∀ (j : Nat) (c : PV), xs[j]? = some c → V g w (lim base bd S.length id) c (vs.getD j undef)) (hone : ∀ v ∈ vs, v.oneCell' = true) (n : Nat) :
  R (S.set id (.cells (cs.take off ++ xs ++ cs.drop (off + xs.length)))) (w.setCells (g.loc id) off vs) g base bd ∧ Evo n g w g (w.setCells (g.loc id) off vs) := by
 obtain ⟨l1, l2, l3, cur, t, l4, l5, l7, l6⟩ := h.live id _ hs
 obtain ⟨cur', s1, s2, s3, s4, s5, s6, s7, s8, s9⟩ := setCells_block (g.loc id) t (0, 0) vs off w cur l4 (by omega)
 have evo : ∀ m, Evo m g w g (w.setCells (g.loc id) off vs) := fun m =>
  Evo.write l4 s1 s2 s5 (fun i hi => by omega) l2 s6.symm s7 s8 s9
 refine ⟨⟨by simpa using h.hbase, h.hbd, fun k hk => by rw [s6]; exact h.hfix k hk, fun b hb => h.hpp b (by omega), ?_, ?_⟩, evo n⟩
 ·intro k o hk
  rw [List.length_set]
  by_cases hki : k = id
  ·subst hki
   have hlt := R.lt h hs
   rw [List.getElem?_set_self hlt] at hk
   injection hk with hk
   subst hk
   refine ⟨l1, l2, l3, cur', t, s1, by rw [s2, splice_len hle]; exact l5, fun z hz => ?_, fun i x hx => ?_⟩
   ·obtain ⟨i, hi, rfl⟩ := Array.mem_iff_getElem.1 hz
    by_cases hin : off ≤ i ∧ i < off + vs.length
    ·have := s4 (i - off) (vs[i - off]'(by omega)) (List.getElem?_eq_getElem (by omega))
     rw [show off + (i - off) = i by omega, Array.getElem?_eq_getElem hi] at this
     injection this with this
     rw [this]
     exact hone _ (List.getElem_mem _)
    ·have := s3 i (by omega)
     rw [Array.getElem?_eq_getElem hi, Array.getElem?_eq_getElem (show i < cur.size by omega)] at this
     injection this with this
     rw [this]
     exact l7 _ (Array.getElem_mem _)
   ·rw [splice_get hle] at hx
    rw [Array.getD_eq_getD_getElem?]
    split at hx
    ·rw [s3 i (.inl (by omega)), ← Array.getD_eq_getD_getElem?]
     exact (l6 i x hx).evo (evo _)
    ·split at hx
     ·rename_i h1 h2
      have h3 : i - off < vs.length := by omega
      have := s4 (i - off) vs[i - off] (List.getElem?_eq_getElem h3)
      rw [show off + (i - off) = i by omega] at this
      rw [this]
      have := hV (i - off) x hx
      rw [List.getD_eq_getElem?_getD, List.getElem?_eq_getElem h3] at this
      exact this.evo (evo _)
     ·rw [s3 i (.inr (by omega)), ← Array.getD_eq_getD_getElem?]
      exact (l6 i x hx).evo (evo _)
  ·rw [List.getElem?_set_ne (Ne.symm hki)] at hk
   have hl' := h.live k o hk
   refine hl'.evo (evo _) rfl rfl rfl rfl (fun hd _ => ⟨s5 _ (fun e => hki ?_), rfl⟩)
   exact h.inj k id o _ hk hs hd (by simp) e
 ·intro i k o p hi hk ho hp hloc
  have aux : ∀ (m : Nat) (q : SObj), (S.set id (.cells (cs.take off ++ xs ++ cs.drop (off + xs.length))))[m]? = some q → q ≠ .dead → ∃ q', S[m]? = some q' ∧ q' ≠ .dead := by
   intro m q hm hq
   by_cases hmi : m = id
   ·subst hmi; exact ⟨_, hs, by simp⟩
   ·rw [List.getElem?_set_ne (Ne.symm hmi)] at hm
    exact ⟨q, hm, hq⟩
  obtain ⟨o', h1, h2⟩ := aux i o hi ho
  obtain ⟨p', h3, h4⟩ := aux k p hk hp
  exact h.inj i k o' p' h1 h3 h2 h4 hloc
theorem R.write {S : List SObj} {w : World} {g : G} {base : Nat} {bd : Nat → Nat} (h : R S w g base bd) {id : Nat} {o o' : SObj} (hs : S[id]? = some o) (ho : o ≠ .dead) {off : Nat} {vs : List Value} {cur : Array Value} {t : TypeId} {fr : Nat × Nat}
  (l4 : w.heap[g.loc id]? = some (.cells cur t fr)) (l2 : ¬ g.fix (g.loc id)) (l3 : g.pp (g.loc id) = 0) (hle : off + vs.length ≤ cur.size)
  (hl : Evo (lim base bd S.length id) g w g (w.setCells (g.loc id) off vs) → Live (w.setCells (g.loc id) off vs) g (lim base bd S.length id) id o') (n : Nat) :
  R (S.set id o') (w.setCells (g.loc id) off vs) g base bd ∧ Evo n g w g (w.setCells (g.loc id) off vs) := by
 obtain ⟨cur', s1, s2, s3, s4, s5, s6, s7, s8, s9⟩ := setCells_block (g.loc id) t fr vs off w cur l4 (by omega)
 have evo : ∀ m, Evo m g w g (w.setCells (g.loc id) off vs) := fun m =>
  Evo.write l4 s1 s2 s5 (fun i hi => by omega) l2 s6.symm s7 s8 s9
 refine ⟨⟨by simpa using h.hbase, h.hbd, fun k hk => by rw [s6]; exact h.hfix k hk, fun b hb => h.hpp b (by omega), ?_, ?_⟩, evo n⟩
 ·intro k q hk
  rw [List.length_set]
  by_cases hki : k = id
  ·subst hki
   have hlt := R.lt h hs
   rw [List.getElem?_set_self hlt] at hk
   injection hk with hk
   subst hk
   exact hl (evo _)
  ·rw [List.getElem?_set_ne (Ne.symm hki)] at hk
   have hl' := h.live k q hk
   refine hl'.evo (evo _) rfl rfl rfl rfl (fun hd _ => ⟨s5 _ (fun e => hki ?_), rfl⟩)
   exact h.inj k id q _ hk hs hd ho e
 ·intro i k q p hi hk hq hp hloc
  have aux : ∀ (m : Nat) (q : SObj), (S.set id o')[m]? = some q → q ≠ .dead → ∃ q', S[m]? = some q' ∧ q' ≠ .dead := by
   intro m q hm hq
   by_cases hmi : m = id
   ·subst hmi; exact ⟨_, hs, ho⟩
   ·rw [List.getElem?_set_ne (Ne.symm hmi)] at hm
    exact ⟨q, hm, hq⟩
  obtain ⟨o1, h1, h2⟩ := aux i q hi hq
  obtain ⟨p', h3, h4⟩ := aux k p hk hp
  exact h.inj i k o1 p' h1 h3 h2 h4 hloc
theorem putCells_len {y z : PV} {j : Nat} {vs : List PV} (h : putCells y j vs = some z) (hle : j + vs.length ≤ y.cells.length) : z.cells.length = y.cells.length ∧
  ∀ (k : Nat) (c : PV), z.cells[k]? = some c → (k < j ∧ y.cells[k]? = some c) ∨ (j ≤ k ∧ k < j + vs.length ∧ vs[k - j]? = some c) ∨ (j + vs.length ≤ k ∧ y.cells[k]? = some c) := by
 unfold putCells at h
 split at h
 ·rename_i cs _
  injection h with h; subst h
  simp only [PV.cells] at hle ⊢
  refine ⟨splice_len hle, fun k c hk => ?_⟩
  rw [splice_get hle] at hk
  split at hk
  ·rename_i h1; exact .inl ⟨h1, hk⟩
  ·split at hk
   ·rename_i h1 h2; exact .inr (.inl ⟨by omega, h2, hk⟩)
   ·rename_i h1 h2; exact .inr (.inr ⟨by omega, hk⟩)
 ·rename_i y' v hna
  split at h
  case isFalse => cases h
  rename_i hone
  injection h with h; subst h
  have hz : v.cells = [v] := by cases v <;> first | rfl | simp [PV.isOne] at hone
  have hy : y.cells.length = 1 := by
   cases y with
   | agg cs => exact absurd rfl (hna cs)
   | _ => rfl
  have hj : j = 0 := by simp only [List.length_singleton] at hle; omega
  subst hj
  refine ⟨by rw [hz, hy]; rfl, fun k c hk => .inr (.inl ⟨Nat.zero_le _, ?_, ?_⟩)⟩
  ·have := (List.getElem?_eq_some_iff.1 hk).1; rw [hz] at this; simpa using this
  ·rw [hz] at hk; simpa using hk
 ·cases h
theorem Live.put {w w' : World} {g : G} {m id : Nat} {xs : List PV} {sz : Nat} {i j : Nat} {y z : PV} {vs : List PV} {us : List Value} (h : Live w g m id (.row xs sz false)) (hi : xs[i]? = some y) (hz : putCells y j vs = some z) (hj : j + vs.length ≤ sz)
  (hw : w' = w.setCells (g.loc id) (i * sz + j) us) (hl : vs.length = us.length) (hV : ∀ (k : Nat) (c : PV), vs[k]? = some c → V g w m c (us.getD k undef)) (hone : ∀ u ∈ us, u.oneCell' = true)
  (evo : Evo m g w g w') : Live w' g m id (.row (xs.set i z) sz false) := by
 obtain ⟨l1, l2, l3, cur, t, fr, l4, l5, l6, l7, l8, l9, l10⟩ := h
 have hil : i < xs.length := (List.getElem?_eq_some_iff.1 hi).1
 have hy := l9 _ _ hi
 obtain ⟨p1, p2⟩ := putCells_len hz (by omega)
 have hfit : i * sz + sz ≤ cur.size := by
  rw [l6]
  have : (i + 1) * sz ≤ g.hw id * sz := Nat.mul_le_mul_right _ (by omega)
  rw [Nat.add_mul] at this; omega
 obtain ⟨cur', s1, s2, s3, s4, s5, s6, s7, s8, s9⟩ := setCells_block (g.loc id) t fr us (i * sz + j) w cur l4 (by omega)
 rw [← hw] at s1
 refine ⟨l1, l2, by simpa using l3, cur', t, fr, s1, by simpa using l5, by rw [s2]; exact l6, fun v hv => ?_, fun k hk => l8 k (by omega), fun k x hk => ?_, fun k x q c hk hq => ?_⟩
 ·obtain ⟨k, hk, rfl⟩ := Array.mem_iff_getElem.1 hv
  by_cases hin : i * sz + j ≤ k ∧ k < i * sz + j + us.length
  ·have := s4 (k - (i * sz + j)) (us[k - (i * sz + j)]'(by omega)) (List.getElem?_eq_getElem (by omega))
   rw [show i * sz + j + (k - (i * sz + j)) = k by omega, Array.getElem?_eq_getElem hk] at this
   injection this with this
   rw [this]
   exact hone _ (List.getElem_mem _)
  ·have := s3 k (by omega)
   rw [Array.getElem?_eq_getElem hk, Array.getElem?_eq_getElem (show k < cur.size by omega)] at this
   injection this with this
   rw [this]
   exact l7 _ (Array.getElem_mem _)
 ·by_cases hki : k = i
  ·subst hki
   rw [List.getElem?_set_self hil] at hk
   injection hk with hk; subst hk
   omega
  ·rw [List.getElem?_set_ne (Ne.symm hki)] at hk
   exact l9 k x hk
 ·have hkl : k < xs.length := by have := (List.getElem?_eq_some_iff.1 hk).1; simpa using this
  rw [Array.getD_eq_getD_getElem?]
  by_cases hki : k = i
  ·subst hki
   rw [List.getElem?_set_self hil] at hk
   injection hk with hk; subst hk
   rcases p2 q c hq with ⟨q1, q2⟩ | ⟨q1, q2, q3⟩ | ⟨q1, q2⟩
   ·rw [s3 _ (.inl (by omega)), ← Array.getD_eq_getD_getElem?]
    exact (l10 _ _ q c hi q2).evo evo
   ·have h3 : q - j < us.length := by omega
    have := s4 (q - j) us[q - j] (List.getElem?_eq_getElem h3)
    rw [show k * sz + j + (q - j) = k * sz + q by omega] at this
    rw [this]
    have := hV (q - j) c q3
    rw [List.getD_eq_getElem?_getD, List.getElem?_eq_getElem h3] at this
    exact this.evo evo
   ·rw [s3 _ (.inr (by omega)), ← Array.getD_eq_getD_getElem?]
    exact (l10 _ _ q c hi q2).evo evo
  ·rw [List.getElem?_set_ne (Ne.symm hki)] at hk
   have hq' : q < sz := by rw [← l9 k x hk]; exact (List.getElem?_eq_some_iff.1 hq).1
   have hout : k * sz + q < i * sz + j ∨ i * sz + j + us.length ≤ k * sz + q := by
    rcases Nat.lt_or_gt_of_ne hki with h | h
    ·have : (k + 1) * sz ≤ i * sz := Nat.mul_le_mul_right _ h
     rw [Nat.add_mul] at this; omega
    ·have : (i + 1) * sz ≤ k * sz := Nat.mul_le_mul_right _ h
     rw [Nat.add_mul] at this; omega
   rw [s3 _ hout, ← Array.getD_eq_getD_getElem?]
   exact (l10 k x q c hk hq).evo evo
theorem cleanL_mem : ∀ {xs : List PV} {i : Nat} {c : PV}, cleanL xs = true → xs[i]? = some c → c.clean = true
 | x :: xs, 0, c, h, hi => by
  simp at hi; subst hi
  simp [cleanL] at h; exact h.1
 | x :: xs, i + 1, c, h, hi => by
  simp [cleanL] at h
  exact cleanL_mem h.2 (by simpa using hi)
 | [], i, c, _, hi => by simp at hi
theorem clean_cells {x : PV} {j : Nat} {c : PV} (h : x.clean = true) (hj : x.cells[j]? = some c) : c.clean = true := by
 cases x with
 | agg cs => exact cleanL_mem (xs := cs) (by simpa [PV.clean] using h) hj
 | _ =>
  simp only [PV.cells] at hj
  cases j with
  | zero => simp at hj; subst hj; exact h
  | succ j => simp at hj
theorem clean_strip1 {x : PV} (h : x.clean = true) : x.strip1.clean = true := by
 unfold PV.strip1
 split
 ·simp only [PV.clean, Bool.and_eq_true] at h ⊢; exact ⟨trivial, h.2⟩
 ·exact h
theorem cleanL_strip1 : ∀ {cs : List PV}, cleanL cs = true → cleanL (cs.map PV.strip1) = true
 | [], _ => rfl
 | c :: cs, h => by
  simp only [cleanL, Bool.and_eq_true, List.map_cons] at h ⊢
  exact ⟨clean_strip1 h.1, cleanL_strip1 h.2⟩
theorem clean_strip2 {x : PV} (h : x.clean = true) : x.strip2.clean = true := by
 unfold PV.strip2
 split
 ·exact clean_strip1 h
 ·simp only [PV.clean] at h ⊢; exact cleanL_strip1 h
 ·simp only [PV.clean] at h ⊢; exact clean_strip1 h
 ·exact h
theorem cleanL_strip2 : ∀ {cs : List PV}, cleanL cs = true → cleanL (cs.map PV.strip2) = true
 | [], _ => rfl
 | c :: cs, h => by
  simp only [cleanL, Bool.and_eq_true, List.map_cons] at h ⊢
  exact ⟨clean_strip2 h.1, cleanL_strip2 h.2⟩
theorem clean_strip {x : PV} (h : x.clean = true) : x.strip.clean = true := by
 unfold PV.strip
 split
 ·exact clean_strip1 h
 ·simp only [PV.clean] at h ⊢; exact cleanL_strip1 h
 ·simp only [PV.clean] at h ⊢; exact clean_strip2 h
 ·simp only [PV.clean] at h ⊢; exact cleanL_strip2 h
 ·exact h
theorem V.clean {g : G} {w : World} {n : Nat} {x : PV} {v : Value} (h : V g w n x v) : x.clean = true → V g w 0 x v := by
 induction h with
 | poison v => exact fun _ => .poison v
 | bool b => exact fun _ => .bool b
 | int k i => exact fun _ => .int k i
 | str s => exact fun _ => .str s
 | nilp => exact fun _ => .nilp
 | ptr => intro hc; simp [PV.clean] at hc
 | iptr cells off b o u h1 h2 _ h4 ih =>
  intro hc
  exact .iptr cells off b o u h1 h2 (fun j c hj => ih j c hj (cleanL_mem (by simpa [PV.clean] using hc) hj)) h4
 | nils => exact fun _ => .nils
 | lst xs tag b o cap sz u hcap h1 h2 h3 _ h5 ht ih =>
  intro hc
  simp only [PV.clean, Bool.and_eq_true] at hc
  refine .lst xs tag b o cap sz u hcap h1 h2 h3 (fun i x j c hi hj => ih i x j c hi hj (clean_cells (cleanL_mem hc.2 hi) hj)) h5 ?_
  cases tag with
  | none => trivial
  | full => exact ht
  | tip id => simp at hc
 | lst0 a => exact fun _ => .lst0 a
 | hsl => intro hc; simp [PV.clean] at hc
 | emp a => exact fun _ => .emp a
 | rsl => intro hc; simp [PV.clean] at hc
 | nilm => exact fun _ => .nilm
 | map => intro hc; simp [PV.clean] at hc
 | nilf => exact fun _ => .nilf
 | fn f as bs as' bs' ha hb _ _ ih1 ih2 =>
  intro hc
  simp only [PV.clean, Bool.and_eq_true] at hc
  exact .fn f as bs as' bs' ha hb (fun i c hi => ih1 i c hi (cleanL_mem hc.1 hi)) (fun i c hi => ih2 i c hi (cleanL_mem hc.2 hi))
 | nili => exact fun _ => .nili
 | ifc t v v' _ ih => exact fun hc => .ifc t v v' (ih (by simpa [PV.clean] using hc))
 | agg cs cs' hl _ h2 ih => exact fun hc => .agg cs cs' hl (fun i c hi => ih i c hi (cleanL_mem (by simpa [PV.clean] using hc) hi)) h2
 | tup cs cs' hl _ ih => exact fun hc => .tup cs cs' hl (fun i c hi => ih i c hi (cleanL_mem (by simpa [PV.clean] using hc) hi))
section
variable {P : Program} {ctx : Ctx} {S : List SObj} {g : G} {w : World} {base base' : Nat} {bd : Nat → Nat} {σ : Nat → PV} {a : Act}
theorem step_store (hc : CtxTy P ctx) (hR : R S w g base bd) (hs : Slots g w S.length σ a.tmps) (hb : base = 0 ∨ base = base') {t : TypeId} {p y : Operand} {S' : List SObj} {e : Bool} (h : storePV ctx base' t (opd σ p) (opd σ y) S = some (S', e)) :
  ∃ w', (Instr.storeAt t (a.eval p) (a.eval y)).run P w = .ok () w' ∧ Good base bd S g w (.tup []) S' e undef w' := by
 have hp := opd_sound hs p
 have hy := opd_sound hs y
 unfold storePV at h
 split at h
 case h_2 => cases h
 rename_i id off hop
 rw [hop] at hp
 obtain ⟨hv, hid, _⟩ := hp.inv_ptr
 split at h
 case h_3 => cases h
 case h_2 =>
  rename_i xs sz ti hcs hti
  split at h
  ·cases h
  rename_i hn
  simp only [not_or, Bool.not_eq_false, Decidable.not_not, Nat.not_lt] at hn
  obtain ⟨n1, n2, n3⟩ := hn
  cases hx : xs[off / sz]? with
  | none => rw [hx] at h; cases h
  | some y0 =>
  rw [hx] at h
  cases hz : putCells y0 (off % sz) (opd σ y).strip.cells with
  | none => simp [hz] at h
  | some z =>
  simp only [Option.bind_some, hz, Option.map_some, Option.some.injEq, Prod.mk.injEq] at h
  obtain ⟨hS, he⟩ := h
  have ht := hc.ty _ _ hti
  obtain ⟨y1, y2, y3⟩ := hy.strip.storable (strip_storable n1)
  rw [strip_cells_len] at y1
  have n2' : (opd σ y).strip.cells.length = ti.size := by rw [strip_cells_len]; exact n2
  have hlive := hR.live id _ hcs
  obtain ⟨l1, l2, l3, cur, t', fr, l4, l5, l6, l7, l8, l9, l10⟩ := hlive
  have hi : off / sz < xs.length := (List.getElem?_eq_some_iff.1 hx).1
  have hdm : off / sz * sz + off % sz = off := by rw [Nat.mul_comm]; exact Nat.div_add_mod off sz
  have hfit : off / sz * sz + sz ≤ cur.size := by
   rw [l6]
   have : (off / sz + 1) * sz ≤ g.hw id * sz := Nat.mul_le_mul_right _ (by omega)
   rw [Nat.add_mul] at this; omega
  have hlen : (a.eval y).cells.toList.length = (opd σ y).cells.length := by simpa using y1
  have hrun : (Instr.storeAt t (a.eval p) (a.eval y)).run P w = .ok () (w.setCells (g.loc id) off (a.eval y).cells.toList) := by
   rw [hv]
   simp only [Instr.storeAt, Instr.sureAddr, storeVar, Sem.run_bind, Sem.run_pure, Result.andThen_ok, ht.run_size]
   rw [if_neg (by omega)]
   refine (run_storeCells_cells (g.loc id) off _ 0 w (fun j hj => ?_) (fun j hj => ?_) (fun v hv => y3 v (by simpa using hv)))
   ·have : off + 0 + j < cur.size := by omega
    simp [World.cell?, l4]; omega
   ·have : off + 0 + j < cur.size := by omega
    have := l8 _ this
    simp only [World.frozen?, l4]
    simpa using this
  refine ⟨_, hrun, ?_⟩
  subst hS
  have key : ∀ (base'' : Nat) (hR'' : R S w g base'' bd), (∀ (j : Nat) (c : PV), (opd σ y).strip.cells[j]? = some c → V g w (lim base'' bd S.length id) c ((a.eval y).cells.toList.getD j undef)) →
    R (S.set id (.row (xs.set (off / sz) z) sz false)) (w.setCells (g.loc id) off (a.eval y).cells.toList) g base'' bd ∧
    Evo S.length g w g (w.setCells (g.loc id) off (a.eval y).cells.toList) := by
   intro base'' hR'' hV
   refine R.write hR'' hcs (by simp) l4 l2 (by simpa using l3) (by omega) (fun evo => ?_) S.length
   exact (hR''.live id _ hcs).put (vs := (opd σ y).strip.cells) hx hz (by omega) (by rw [hdm]) (by rw [strip_cells_len]; exact hlen.symm) hV (fun v hv => y3 v (by simpa using hv)) evo
  have hVs : ∀ (j : Nat) (c : PV), (opd σ y).strip.cells[j]? = some c → V g w S.length c ((a.eval y).cells.toList.getD j undef) := fun j c hj => by rw [getD_toList]; exact y2 j c hj
  cases e with
  | true =>
   obtain ⟨k1, k2⟩ := key 0 hR.weaken (fun j c hj => by simpa [lim] using hVs j c hj)
   exact ⟨g, .tup [] _ rfl (fun i c hi => by simp at hi), by simpa using k1, k2, by simp⟩
  | false =>
   obtain ⟨k1, k2⟩ := key base hR (fun j c hj => by
    unfold lim
    split
    ·rename_i hlt
     have hcl : (opd σ y).clean = true := by
      rcases hb with hb | hb
      ·omega
      ·subst hb
       simpa [hlt] using he
     exact ((hVs j c hj).clean (clean_cells (clean_strip hcl) hj)).mono (Nat.zero_le _)
    ·exact hVs j c hj)
   exact ⟨g, .tup [] _ rfl (fun i c hi => by simp at hi), by simpa using k1, k2, by simp⟩
 rename_i cs ti hcs hti
 split at h
 ·cases h
 rename_i hn
 simp only [not_or, Bool.not_eq_false, Decidable.not_not, Nat.not_lt] at hn
 obtain ⟨n1, n2, n3⟩ := hn
 injection h with h
 injection h with hS he
 have ht := hc.ty _ _ hti
 obtain ⟨y1, y2, y3⟩ := hy.storable n1
 obtain ⟨l1, l2, l3, cur, t', l4, l5, l7, l6⟩ := hR.live id _ hcs
 have hlen : (a.eval y).cells.toList.length = (opd σ y).cells.length := by simpa using y1
 have hrun : (Instr.storeAt t (a.eval p) (a.eval y)).run P w = .ok () (w.setCells (g.loc id) off (a.eval y).cells.toList) := by
  rw [hv]
  simp only [Instr.storeAt, Instr.sureAddr, storeVar, Sem.run_bind, Sem.run_pure, Result.andThen_ok, ht.run_size]
  rw [if_neg (by omega)]
  refine (run_storeCells_cells (g.loc id) off _ 0 w (fun j hj => ?_) (fun j hj => ?_) (fun v hv => y3 v (by simpa using hv)))
  ·have : off + 0 + j < cur.size := by omega
   simp [World.cell?, l4]; omega
  ·simp [World.frozen?, l4]
 refine ⟨_, hrun, ?_⟩
 subst hS
 have key : ∀ (base'' : Nat) (hR'' : R S w g base'' bd), (∀ (j : Nat) (c : PV), (opd σ y).cells[j]? = some c → V g w (lim base'' bd S.length id) c ((a.eval y).cells.toList.getD j undef)) →
   R (S.set id (.cells (cs.take off ++ (opd σ y).cells ++ cs.drop (off + ti.size)))) (w.setCells (g.loc id) off (a.eval y).cells.toList) g base'' bd ∧
   Evo S.length g w g (w.setCells (g.loc id) off (a.eval y).cells.toList) := by
  intro base'' hR'' hV
  have := R.setRow hR'' hcs (off := off) (xs := (opd σ y).cells) (vs := (a.eval y).cells.toList) (by omega) hlen.symm hV (fun v hv => y3 v (by simpa using hv)) S.length
  rw [n2] at this
  exact this
 have hVs : ∀ (j : Nat) (c : PV), (opd σ y).cells[j]? = some c → V g w S.length c ((a.eval y).cells.toList.getD j undef) := fun j c hj => by rw [getD_toList]; exact y2 j c hj
 cases e with
 | true =>
  obtain ⟨k1, k2⟩ := key 0 hR.weaken (fun j c hj => by simpa [lim] using hVs j c hj)
  exact ⟨g, .tup [] _ rfl (fun i c hi => by simp at hi), by simpa using k1, k2, by simp⟩
 | false =>
  obtain ⟨k1, k2⟩ := key base hR (fun j c hj => by
   unfold lim
   split
   ·rename_i hlt
    have hcl : (opd σ y).clean = true := by
     rcases hb with hb | hb
     ·omega
     ·subst hb
      simpa [hlt] using he
    exact ((hVs j c hj).clean (clean_cells hcl hj)).mono (Nat.zero_le _)
   ·exact hVs j c hj)
  exact ⟨g, .tup [] _ rfl (fun i c hi => by simp at hi), by simpa using k1, k2, by simp⟩
theorem new_cells (hR : R S w g base bd) {cs : List PV} {vals : Array Value} (t : TypeId) (hl : vals.size = cs.length) (hV : ∀ (j : Nat) (c : PV), cs[j]? = some c → V g w S.length c (vals.getD j undef))
  (hone : ∀ v ∈ vals, v.oneCell' = true) :
  Good base bd S g w (.ptr S.length 0) (S ++ [.cells cs]) false (.pointer (some ⟨w.heap.size, 0, none⟩)) (w.alloc (.cells vals t)) := by
 have hpp := hR.hpp w.heap.size (Nat.le_refl _)
 have hgB := hR.hfix
 have evo : Evo S.length g w (g.new S.length w.heap.size 0 0 0 true) (w.alloc (.cells vals t)) := Evo.newBlock _ (Nat.le_refl _) hpp hgB
 refine ⟨g.new S.length w.heap.size 0 0 0 true, ?_, ?_, evo, by simp⟩
 ·have := V.ptr (g := g.new S.length w.heap.size 0 0 0 true) (w := w.alloc (.cells vals t)) (n := (S ++ [SObj.cells cs]).length) S.length 0 (by simp) (by simp [G.new])
  simpa [G.new] using this
 ·simp only [Bool.false_eq_true, if_false]
  refine hR.newBlock _ _ ⟨by simp [G.new], ?_, by simp [G.new], vals, t, ?_, hl, hone, fun j c hj => ((hV j c hj).evo evo).mono (by omega)⟩
  ·intro hk
   have hk' : g.fix w.heap.size := by simpa [G.new] using hk
   have := hR.hfix _ hk'
   omega
  ·have := alloc_new w (.cells vals t)
   simpa only [G.new, if_true] using this
theorem step_alloc (hc : CtxTy P ctx) (hR : R S w g base bd) {t : TypeId} {ti : TyI} (hti : ctx.ty t = some ti) (hst : ti.zero.storable = true) :
  ∃ v w', (Instr.alloc t true (.tuple #[])).run P w = .ok v w' ∧ Good base bd S g w (.ptr S.length 0) (S ++ [.cells ti.zero.cells]) false v w' := by
 have ht := hc.ty _ _ hti
 obtain ⟨z, hz, hz2, hz3⟩ := ht.run_zero w
 obtain ⟨y1, y2, y3⟩ := (absV_sound g w S.length hz2).storable hst
 refine ⟨_, _, ?_, new_cells hR t y1 y2 y3⟩
 simp [Instr.alloc, hz, newVar, newRow]
theorem step_box (hR : R S w g base bd) (hs : Slots g w S.length σ a.tmps) {t : TypeId} {x : Operand} (hst : (opd σ x).storable = true) :
  ∃ v w', (Instr.box t (a.eval x)).run P w = .ok v w' ∧ Good base bd S g w (.ptr S.length 0) (S ++ [.cells (opd σ x).cells]) false v w' := by
 obtain ⟨y1, y2, y3⟩ := (opd_sound hs x).storable hst
 refine ⟨_, _, ?_, new_cells hR t y1 y2 y3⟩
 simp [Instr.box, newVar, newRow]
theorem step_fieldAddr (hs : Slots g w S.length σ a.tmps) (hc : CtxTy P ctx) {t : TypeId} {x : Operand} {i : Nat} {y : PV} (h : fieldAddrPV ctx t (opd σ x) i = some y) :
  ∃ v, (Instr.fieldAt t (a.eval x) i).run P w = .ok v w ∧ V g w S.length y v := by
 have hx := opd_sound hs x
 unfold fieldAddrPV fieldsOf at h
 split at h
 ·cases h
 rename_i fs hfs
 split at hfs
 case h_2 => cases hfs
 rename_i ti hti
 split at hfs
 case h_2 => cases hfs
 rename_i fs' hund
 injection hfs with hfs; subst hfs
 split at h
 ·cases h
 rename_i f hf
 split at h
 ·cases h
 rename_i fi hfi
 split at h
 ·cases h
 rename_i hne
 have ht := hc.ty _ _ hti
 have htf := hc.ty _ _ hfi
 have hadd : ∀ b o, (⟨b, o, none⟩ : Addr).add f.offset = ⟨b, o + f.offset, none⟩ := by
  intro b o; unfold Addr.add; split
  ·rename_i h0; simp [h0]
  ·rfl
 split at h
 ·rename_i id off hop
  injection h with h; subst h
  rw [hop] at hx
  obtain ⟨hv, h1, h2⟩ := hx.inv_ptr
  refine ⟨.pointer (some ⟨g.loc id, off + f.offset, none⟩), ?_, .ptr id _ h1 h2⟩
  rw [hv]
  simp [Instr.fieldAt, ht.run_und, hund, hf, Instr.sureAddr, fieldPlace, htf.run_size, hne, hadd]
 ·rename_i cs off hop
  injection h with h; subst h
  rw [hop] at hx
  obtain ⟨b, o, u, hv, h1, h2, h3, h4⟩ := hx.inv_iptr
  refine ⟨.pointer (some ⟨b, o + (off + f.offset), none⟩), ?_, .iptr cs _ b o u h1 h2 h3 h4⟩
  rw [hv]
  simp [Instr.fieldAt, ht.run_und, hund, hf, Instr.sureAddr, fieldPlace, htf.run_size, hne, hadd, Nat.add_assoc]
 ·cases h
theorem step_field (hs : Slots g w S.length σ a.tmps) (hc : CtxTy P ctx) {t : TypeId} {x : Operand} {i : Nat} {y : PV} {fs : Array Field} {cs : List PV} {f : Field} (hfs : fieldsOf ctx t = some fs) (hop : opd σ x = .agg cs) (hf : fs[i]? = some f)
  (h : partOf ctx f.type cs f.offset = some y) :
  ∃ v, (Instr.field t (a.eval x) i).run P w = .ok v w ∧ V g w S.length y v := by
 have hx := opd_sound hs x
 unfold fieldsOf at hfs
 split at hfs
 case h_2 => cases hfs
 rename_i ti hti
 split at hfs
 case h_2 => cases hfs
 rename_i fs' hund
 injection hfs with hfs; subst hfs
 have ht := hc.ty _ _ hti
 rw [hop] at hx
 obtain ⟨cs', hv, h1, h2, h3⟩ := hx.inv_agg
 obtain ⟨v, hr, hV⟩ := part_sound (P := P) hc h1 h2 h3 h
 refine ⟨v, ?_, hV⟩
 rw [hv]
 simp [Instr.field, ht.run_und, hund, hf, asAgg, hr]
theorem step_bound {x : Option PV} {x' : Option Value} (hx : ∀ y, x = some y → ∃ v, x' = some v ∧ V g w S.length y v) (hn : x = none → x' = none) {d : Nat} {i : Int} (h : boundOf x d = some i) :
  (x' = none ∧ i = d) ∨ ∃ k, x' = some (.int k i) := by
 unfold boundOf at h
 split at h
 ·injection h with h
  exact .inl ⟨hn rfl, h.symm⟩
 ·rename_i k n
  injection h with h; subst h
  obtain ⟨v, h1, h2⟩ := hx _ rfl
  rw [h2.inv_int] at h1
  exact .inr ⟨k, h1⟩
 ·cases h
end
end Go.Pam
namespace Go.Pam
open Go.RowKit
theorem add_mk (b o n : Nat) : (⟨b, o, none⟩ : Addr).add n = ⟨b, o + n, none⟩ := by
 unfold Addr.add; split
 ·rename_i h0; simp [h0]
 ·rfl
section
variable {P : Program} {ctx : Ctx} {S : List SObj} {g : G} {w : World} {base : Nat} {bd : Nat → Nat} {σ : Nat → PV} {a : Act}
theorem step_indexAddr (hc : CtxTy P ctx) {n : Nat} {t : TypeId} {x y : PV} {v iv : Value} {k : IntKind} {i : Int} (hx : V g w n x v) (hi : iv = .int k i) (h : indexAddrPV ctx t x i = some y) :
  ∃ v', (Instr.indexAt t v iv).run P w = .ok v' w ∧ V g w n y v' := by
 subst hi
 unfold indexAddrPV at h
 split at h
 ·cases h
 rename_i ti hti
 have ht := hc.ty _ _ hti
 split at h
 ·rename_i e xs tag hund
  split at h
  case h_2 => cases h
  rename_i ei hei
  have hte := hc.ty _ _ hei
  split at h
  case isFalse => cases h
  rename_i h0
  split at h
  case h_2 => cases h
  rename_i z hz
  split at h
  case isFalse => cases h
  rename_i hsz
  injection h with h; subst h
  rcases hx.inv_lst with ⟨rfl, _, _⟩ | ⟨b, o, cap, sz, u, rfl, c1, c2, c3, c4, c5, c6, c7⟩
  ·simp at hz
  have hlt : i.toNat < xs.length := (List.getElem?_eq_some_iff.1 hz).1
  have hs := c2 _ _ hz
  have hrun : (Instr.indexAt t (.slice (some ⟨b, o, none⟩) xs.length cap) (.int k i)).run P w = .ok (.pointer (some ⟨b, o + i.toNat * ei.size, none⟩)) w := by
   simp only [Instr.indexAt, asIntOf, Sem.run_bind, Sem.run_pure, Result.andThen_ok, ht.run_und, hund]
   rw [if_pos ⟨h0, by omega⟩]
   simp [hte.run_size, add_mk]
  refine ⟨_, hrun, ?_⟩
  have := V.iptr (g := g) (w := w) (n := n) z.cells 0 b (o + i.toNat * ei.size) (u i.toNat)
   (fun j c hj => by have := c3 _ _ j c hz hj; rw [← hs, hsz] at this; exact this)
   (fun j c hj => by have := c4 _ _ j c hz hj; rw [← hs, hsz] at this; exact this)
   (fun j c hj => c5 _ _ j c hz hj) (fun j hj => c6 _ _ j hz (by omega))
  exact this
 ·rename_i e id off len hund
  split at h
  case h_2 => cases h
  rename_i ei hei
  have hte := hc.ty _ _ hei
  split at h
  case isFalse => cases h
  rename_i h0
  injection h with h; subst h
  obtain ⟨cap, rfl, c1, c2, c3⟩ := hx.inv_hsl
  refine ⟨_, ?_, .ptr id (off + i.toNat * ei.size) c2 c3⟩
  simp only [Instr.indexAt, asIntOf, Sem.run_bind, Sem.run_pure, Result.andThen_ok, ht.run_und, hund]
  rw [if_pos h0]
  simp [hte.run_size, add_mk]
 ·rename_i e id len hund
  split at h
  case h_2 => cases h
  rename_i ei hei
  have hte := hc.ty _ _ hei
  split at h
  case isFalse => cases h
  rename_i h0
  injection h with h; subst h
  obtain ⟨rfl, c1, c2, c3⟩ := hx.inv_rsl
  refine ⟨_, ?_, .ptr id (i.toNat * ei.size) c2 c3⟩
  simp only [Instr.indexAt, asIntOf, Sem.run_bind, Sem.run_pure, Result.andThen_ok, ht.run_und, hund]
  rw [if_pos h0]
  simp [hte.run_size, add_mk]
 ·rename_i len e id off hund
  split at h
  case h_2 => cases h
  rename_i ei hei
  have hte := hc.ty _ _ hei
  split at h
  case isFalse => cases h
  rename_i h0
  injection h with h; subst h
  obtain ⟨rfl, c2, c3⟩ := hx.inv_ptr
  refine ⟨_, ?_, .ptr id (off + i.toNat * ei.size) c2 c3⟩
  simp only [Instr.indexAt, asIntOf, Sem.run_bind, Sem.run_pure, Result.andThen_ok, ht.run_und, hund, Instr.sureAddr]
  rw [if_pos h0]
  simp [hte.run_size, add_mk]
 ·rename_i len e cs off hund
  split at h
  case h_2 => cases h
  rename_i ei hei
  have hte := hc.ty _ _ hei
  split at h
  case isFalse => cases h
  rename_i h0
  injection h with h; subst h
  obtain ⟨b, o, u, rfl, c1, c2, c3, c4⟩ := hx.inv_iptr
  refine ⟨.pointer (some ⟨b, o + (off + i.toNat * ei.size), none⟩), ?_, .iptr cs _ b o u c1 c2 c3 c4⟩
  simp only [Instr.indexAt, asIntOf, Sem.run_bind, Sem.run_pure, Result.andThen_ok, ht.run_und, hund, Instr.sureAddr]
  rw [if_pos h0]
  simp [hte.run_size, add_mk, Nat.add_assoc]
 ·cases h
theorem step_index (hc : CtxTy P ctx) {n : Nat} {t : TypeId} {x y : PV} {v iv : Value} {k : IntKind} {i : Int} (hx : V g w n x v) (hi : iv = .int k i) (h : indexPV ctx t x i = some y) :
  ∃ v', (Instr.index t v iv).run P w = .ok v' w ∧ V g w n y v' := by
 subst hi
 unfold indexPV at h
 split at h
 ·cases h
 rename_i ti hti
 have ht := hc.ty _ _ hti
 split at h
 ·rename_i s hund
  split at h
  case isFalse => cases h
  rename_i h0
  obtain ⟨bs, rfl, hb⟩ := hx.inv_str
  cases hg : s[i.toNat]? with
  | none => simp [hg] at h
  | some b =>
   simp [hg] at h
   subst h
   refine ⟨.int .u8 b.toNat, ?_, .int _ _⟩
   have hbs : bs[i.toNat]? = some b := by
    have h1 : bs.data.toList[i.toNat]? = some b := by rw [hb]; exact hg
    rw [Array.getElem?_toList] at h1
    exact h1
   simp only [Instr.index, asIntOf, Sem.run_bind, Sem.run_pure, Result.andThen_ok, ht.run_und, hund, if_pos h0, hbs]
 ·rename_i len e cs hund
  split at h
  case h_2 => cases h
  rename_i ei hei
  have hte := hc.ty _ _ hei
  split at h
  case isFalse => cases h
  rename_i h0
  obtain ⟨cs', rfl, h1, h2, h3⟩ := hx.inv_agg
  obtain ⟨v', hr, hV⟩ := part_sound (P := P) hc h1 h2 h3 h
  refine ⟨v', ?_, hV⟩
  simp only [Instr.index, asIntOf, Sem.run_bind, Sem.run_pure, Result.andThen_ok, ht.run_und, hund, if_pos h0, hte.run_size, hr]
 ·cases h
theorem bytes_extract (s : ByteArray) (l h : Nat) : (s.extract l h).data.toList = (s.data.toList.take h).drop l := by
 have : (s.extract l h).data = s.data.extract l h := by simp
 rw [this, Array.toList_extract]
 simp [List.extract, List.drop_take]
theorem sizedAll_get : ∀ {xs : List PV} {n i : Nat} {x : PV}, sizedAll n xs = true → xs[i]? = some x → x.cells.length = n
 | y :: ys, n, 0, x, h, hi => by
  simp at hi; subst hi
  simp [sizedAll] at h; exact h.1
 | y :: ys, n, i + 1, x, h, hi => by
  simp [sizedAll] at h
  exact sizedAll_get h.2 (by simpa using hi)
 | [], n, i, x, _, hi => by simp at hi
theorem bounds_run {lo hi : Option Value} {l h : Int} {len cap : Nat} {isS : Bool} (hl : (lo = none ∧ l = 0) ∨ ∃ k, lo = some (.int k l)) (hh : (hi = none ∧ h = len) ∨ ∃ k, hi = some (.int k h))
  (h0 : 0 ≤ l) (h1 : l ≤ h) (h2 : h ≤ len) (h3 : len ≤ cap) :
  (Instr.sliceBounds isS len cap lo hi none).run P w = .ok (l.toNat, h.toNat, cap) w := by
 have e1 : ((l.toNat : Nat) : Int) = l := Int.toNat_of_nonneg h0
 rcases hl with ⟨rfl, rfl⟩ | ⟨k, rfl⟩ <;> rcases hh with ⟨rfl, rfl⟩ | ⟨k', rfl⟩ <;> simp [Instr.sliceBounds, Instr.sliceBound, asIntOf]
 ·omega
 ·intro h; have := h h0; omega
 ·rw [if_pos (by omega), if_pos (by omega)]
theorem bounds3_run {lo hi mx : Option Value} {k k' : IntKind} {len cap : Nat} (hl : lo = none ∨ ∃ k, lo = some (.int k 0)) (hh : hi = some (.int k 0)) (hm : mx = some (.int k' 0)) :
  (Instr.sliceBounds true len cap lo hi mx).run P w = .ok (0, 0, 0) w := by
 subst hh hm
 rcases hl with rfl | ⟨k2, rfl⟩ <;> simp [Instr.sliceBounds, Instr.sliceBound, asIntOf]
theorem step_slice (hc : CtxTy P ctx) {n : Nat} {t : TypeId} {x y : PV} {v : Value} {lo hi mx : Option PV} {lo' hi' mx' : Option Value} (hx : V g w n x v)
  (hlo : ∀ (d : Nat) (i : Int), boundOf lo d = some i → (lo' = none ∧ i = d) ∨ ∃ k, lo' = some (.int k i)) (hhi : ∀ (d : Nat) (i : Int), boundOf hi d = some i → (hi' = none ∧ i = d) ∨ ∃ k, hi' = some (.int k i))
  (hmx : mx = none → mx' = none) (hmx2 : ∀ (d : Nat) (i : Int), boundOf mx d = some i → (mx' = none ∧ i = d) ∨ ∃ k, mx' = some (.int k i)) (h : slicePV ctx t x lo hi mx = some y) :
  ∃ v', (Instr.sliceAt t v lo' hi' mx').run P w = .ok v' w ∧ V g w n y v' := by
 unfold slicePV at h
 split at h
 ·cases h
 rename_i ti hti
 have ht := hc.ty _ _ hti
 split at h
 ·-- a string
  rename_i s hund
  rw [hmx rfl]
  split at h
  case h_2 => cases h
  rename_i l h' hl hh
  split at h
  case isFalse => cases h
  rename_i hb
  injection h with h; subst h
  obtain ⟨bs, rfl, hs⟩ := hx.inv_str
  have hsz : s.length = bs.size := by rw [← hs]; simp
  have hbr := bounds_run (P := P) (w := w) (isS := false) (cap := bs.size) (hlo _ _ hl) (by have := hhi _ _ hh; rwa [hsz] at this) hb.1 hb.2.1 (by omega) (Nat.le_refl _)
  refine ⟨.string (bs.extract l.toNat h'.toNat), ?_, ?_⟩
  ·simp only [Instr.sliceAt, Sem.run_bind, ht.run_und, hund, Result.andThen_ok, Instr.slice]
   simp [hbr]
  ·have := V.str (g := g) (w := w) (n := n) (bs.extract l.toNat h'.toNat)
   rwa [bytes_extract, hs] at this
 ·-- a list
  rename_i e xs tag hund
  rw [hmx rfl]
  split at h
  case h_2 => cases h
  rename_i l h' ei hl hh hei
  have hte := hc.ty _ _ hei
  split at h
  case isFalse => cases h
  rename_i hb
  rcases hx.inv_lst with ⟨rfl, rfl, a, rfl⟩ | ⟨b, o, cap, sz, u, rfl, c1, c2, c3, c4, c5, c6, c7⟩
  ·have hz : l = 0 ∧ h' = 0 := by simp only [List.length_nil] at hb; omega
   obtain ⟨rfl, rfl⟩ := hz
   rw [if_pos ⟨rfl, rfl⟩] at h
   injection h with h; subst h
   have hbr := bounds_run (P := P) (w := w) (isS := true) (cap := 0) (hlo _ _ hl) (hhi _ _ hh) hb.1 hb.2.1 (by simp) (by simp)
   rw [List.length_nil] at hbr
   refine ⟨_, ?_, .lst0 a⟩
   simp only [Instr.sliceAt, Sem.run_bind, ht.run_und, hund, Result.andThen_ok, Instr.slice, hbr, hte.run_size, Sem.run_pure, Option.map_some, Int.toNat_zero, if_true, Nat.sub_self]
  have hbr := bounds_run (P := P) (w := w) (isS := true) (cap := cap) (hlo _ _ hl) (hhi _ _ hh) hb.1 hb.2.1 (by omega) c1
  have hrun : ∀ z, z = Value.slice (if cap = l.toNat then (some ⟨b, o, none⟩ : Option Addr) else some ⟨b, o + l.toNat * ei.size, none⟩) (h'.toNat - l.toNat) (cap - l.toNat) →
    (Instr.sliceAt t (.slice (some ⟨b, o, none⟩) xs.length cap) lo' hi' none).run P w = .ok z w := by
   rintro z rfl
   simp only [Instr.sliceAt, Sem.run_bind, ht.run_und, hund, Result.andThen_ok, Instr.slice, hbr, hte.run_size, Sem.run_pure, Option.map_some, add_mk]
  split at h
  ·rename_i hfull
   injection h with h; subst h
   obtain ⟨rfl, rfl⟩ := hfull
   refine ⟨_, hrun _ rfl, ?_⟩
   simp only [Int.toNat_zero, Nat.zero_mul, Nat.add_zero, Nat.sub_zero, Int.toNat_natCast, ite_self]
   exact .lst xs tag b o cap sz u c1 c2 c3 c4 c5 c6 c7
  ·split at h
   case isFalse => cases h
   rename_i hall
   injection h with h; subst h
   refine ⟨_, hrun _ rfl, ?_⟩
   have hlen : ((xs.take h'.toNat).drop l.toNat).length = h'.toNat - l.toNat := by simp; omega
   have hget : ∀ (i : Nat) (z : PV), ((xs.take h'.toNat).drop l.toNat)[i]? = some z → xs[l.toNat + i]? = some z ∧ l.toNat + i < h'.toNat := by
    intro i z hz
    rw [List.getElem?_drop, List.getElem?_take] at hz
    split at hz
    ·rename_i hlt; exact ⟨hz, hlt⟩
    ·cases hz
   have hmk : ∀ o', (∀ i, l.toNat + i < h'.toNat → o' + i * ei.size = o + (l.toNat + i) * ei.size) →
     V g w n (.lst ((xs.take h'.toNat).drop l.toNat) .none) (.slice (some ⟨b, o', none⟩) (h'.toNat - l.toNat) (cap - l.toNat)) := by
    intro o' ho'
    have hsz : ∀ (i : Nat) (z : PV), xs[i]? = some z → sz = ei.size := fun i z hz => by rw [← c2 i z hz]; exact sizedAll_get hall hz
    have := V.lst (g := g) (w := w) (n := n) ((xs.take h'.toNat).drop l.toNat) .none b o' (cap - l.toNat) ei.size (fun i j => u (l.toNat + i) j) (by rw [hlen]; omega)
     (fun i z hz => by obtain ⟨q1, q2⟩ := hget i z hz; exact sizedAll_get hall q1)
     (fun i z j c hz hj => by obtain ⟨q1, q2⟩ := hget i z hz; have := c3 _ z j c q1 hj; rw [hsz _ _ q1, ← ho' i q2] at this; exact this)
     (fun i z j c hz hj => by obtain ⟨q1, q2⟩ := hget i z hz; have := c4 _ z j c q1 hj; rw [hsz _ _ q1, ← ho' i q2] at this; exact this)
     (fun i z j c hz hj => by obtain ⟨q1, q2⟩ := hget i z hz; exact c5 _ z j c q1 hj)
     (fun i z j hz hj => by obtain ⟨q1, q2⟩ := hget i z hz; exact c6 _ z j q1 (by rw [hsz _ _ q1]; exact hj)) trivial
    rwa [hlen] at this
   split
   ·exact hmk o (fun i hi => by omega)
   ·exact hmk _ (fun i _ => by rw [Nat.add_mul]; omega)
 ·-- nil
  rename_i e hund
  rw [hmx rfl]
  split at h
  case h_2 => cases h
  rename_i l h' ei hl hh hei
  have hte := hc.ty _ _ hei
  split at h
  case isFalse => cases h
  rename_i hb
  obtain ⟨rfl, rfl⟩ := hb
  injection h with h; subst h
  rw [hx.inv_nils]
  have hbr := bounds_run (P := P) (w := w) (isS := true) (len := 0) (cap := 0) (hlo _ _ hl) (hhi _ _ hh) (by omega) (by omega) (by omega) (by omega)
  refine ⟨.slice none 0 0, ?_, .nils⟩
  simp only [Instr.sliceAt, Sem.run_bind, ht.run_und, hund, Result.andThen_ok, Instr.slice, hbr, hte.run_size, Sem.run_pure]
  simp
 ·-- nil, of three
  rename_i e m hund
  split at h
  case h_2 => cases h
  rename_i l h' k ei hl hh hk hei
  have hte := hc.ty _ _ hei
  split at h
  case isFalse => cases h
  rename_i hb
  obtain ⟨hs, rfl, rfl, rfl⟩ := hb
  injection h with h; subst h
  have e1 : lo' = none ∨ ∃ k, lo' = some (.int k 0) := (hlo 0 0 hl).imp (fun h => h.1) id
  obtain ⟨k1, rfl⟩ : ∃ k, hi' = some (.int k 0) := by
   have : boundOf hi 1 = some 0 := by cases hi with | none => cases hs | some q => cases q <;> first | exact hh | cases hh
   exact (hhi 1 0 this).resolve_left (fun h => by have := h.2; omega)
  obtain ⟨k2, rfl⟩ : ∃ k, mx' = some (.int k 0) := by
   have : boundOf (some m) 1 = some 0 := by cases m <;> first | exact hk | cases hk
   exact (hmx2 1 0 this).resolve_left (fun h => by have := h.2; omega)
  rw [hx.inv_nils]
  have hbr := bounds3_run (P := P) (w := w) (len := 0) (cap := 0) e1 (rfl : some (Value.int k1 0) = some (.int k1 0)) (rfl : some (Value.int k2 0) = some (.int k2 0))
  refine ⟨.slice none 0 0, ?_, .nils⟩
  simp only [Instr.sliceAt, Sem.run_bind, ht.run_und, hund, Result.andThen_ok, Instr.slice, hbr, hte.run_size, Sem.run_pure]
  simp
 ·-- a list, of three
  rename_i e xs tag m hund
  split at h
  case h_2 => cases h
  rename_i l h' k ei hl hh hk hei
  have hte := hc.ty _ _ hei
  split at h
  case isFalse => cases h
  rename_i hb
  obtain ⟨hs, rfl, rfl, rfl⟩ := hb
  injection h with h; subst h
  have e1 : lo' = none ∨ ∃ k, lo' = some (.int k 0) := (hlo 0 0 hl).imp (fun h => h.1) id
  obtain ⟨k1, rfl⟩ : ∃ k, hi' = some (.int k 0) := by
   have : boundOf hi 1 = some 0 := by cases hi with | none => cases hs | some q => cases q <;> first | exact hh | cases hh
   exact (hhi 1 0 this).resolve_left (fun h => by have := h.2; omega)
  obtain ⟨k2, rfl⟩ : ∃ k, mx' = some (.int k 0) := by
   have : boundOf (some m) 1 = some 0 := by cases m <;> first | exact hk | cases hk
   exact (hmx2 1 0 this).resolve_left (fun h => by have := h.2; omega)
  have hsl : ∃ a len cap, v = .slice (some a) len cap := by
   rcases hx.inv_lst with ⟨rfl, rfl, a, rfl⟩ | ⟨b, o, cap, sz, u, rfl, _⟩
   ·exact ⟨_, _, _, rfl⟩
   ·exact ⟨_, _, _, rfl⟩
  obtain ⟨a, len, cap, rfl⟩ := hsl
  have hbr := bounds3_run (P := P) (w := w) (len := len) (cap := cap) e1 (rfl : some (Value.int k1 0) = some (.int k1 0)) (rfl : some (Value.int k2 0) = some (.int k2 0))
  refine ⟨.slice (some a) 0 0, ?_, .emp a⟩
  simp only [Instr.sliceAt, Sem.run_bind, ht.run_und, hund, Result.andThen_ok, Instr.slice, hbr, hte.run_size, Sem.run_pure]
  simp
 ·-- an object's cells
  rename_i e id off len hund
  rw [hmx rfl]
  split at h
  case h_2 => cases h
  rename_i l h' ei hl hh hei
  have hte := hc.ty _ _ hei
  split at h
  case isFalse => cases h
  rename_i hb
  injection h with h; subst h
  obtain ⟨cap, rfl, c1, c2, c3⟩ := hx.inv_hsl
  have hbr := bounds_run (P := P) (w := w) (isS := true) (cap := cap) (hlo _ _ hl) (hhi _ _ hh) hb.1 hb.2.1 (by omega) c1
  refine ⟨.slice (some ⟨g.loc id, off + l.toNat * ei.size, none⟩) (h' - l).toNat (cap - l.toNat), ?_, .hsl id _ _ _ c2 c3 (by omega)⟩
  simp only [Instr.sliceAt, Sem.run_bind, ht.run_und, hund, Result.andThen_ok, Instr.slice, hbr, hte.run_size, Sem.run_pure, Option.map_some, add_mk]
  rw [if_neg (by omega), show h'.toNat - l.toNat = (h' - l).toNat by omega]
 ·-- a row
  rename_i e id len hund
  rw [hmx rfl]
  split at h
  case h_2 => cases h
  rename_i l h' ei hl hh hei
  have hte := hc.ty _ _ hei
  split at h
  case isFalse => cases h
  rename_i hb
  obtain ⟨rfl, c1, c2, c3⟩ := hx.inv_rsl
  have hbr := bounds_run (P := P) (w := w) (isS := true) (cap := g.hw id) (hlo _ _ hl) (hhi _ _ hh) hb.1 hb.2.1 (by omega) c1
  split at h
  ·rename_i hl0
   injection h with h; subst h
   subst hl0
   refine ⟨.slice (some ⟨g.loc id, 0, none⟩) h'.toNat (g.hw id), ?_, .rsl id _ c2 c3 (by omega)⟩
   simp only [Instr.sliceAt, Sem.run_bind, ht.run_und, hund, Result.andThen_ok, Instr.slice, hbr, hte.run_size, Sem.run_pure, Option.map_some, add_mk, Int.toNat_zero, Nat.zero_mul, Nat.add_zero, Nat.sub_zero, ite_self]
  ·split at h
   case isFalse =>
    rename_i hl0 hlt
    injection h with h; subst h
    have emp : ∀ (b o cap : Nat), V g w n (.lst [] .none) (.slice (some ⟨b, o, none⟩) 0 cap) := fun b o cap =>
     V.lst [] .none b o cap 0 (fun _ _ => undef) (Nat.zero_le _) (fun i x h => by simp at h) (fun i x j c h => by simp at h) (fun i x j c h => by simp at h) (fun i x j c h => by simp at h) (fun i x j h => by simp at h) trivial
    by_cases hm : g.hw id = l.toNat
    ·refine ⟨.slice (some ⟨g.loc id, 0, none⟩) 0 (g.hw id - l.toNat), ?_, emp _ _ _⟩
     simp only [Instr.sliceAt, Sem.run_bind, ht.run_und, hund, Result.andThen_ok, Instr.slice, hbr, hte.run_size, Sem.run_pure, Option.map_some, add_mk]
     rw [if_pos hm, show h'.toNat - l.toNat = 0 by omega]
    ·refine ⟨.slice (some ⟨g.loc id, 0 + l.toNat * ei.size, none⟩) 0 (g.hw id - l.toNat), ?_, emp _ _ _⟩
     simp only [Instr.sliceAt, Sem.run_bind, ht.run_und, hund, Result.andThen_ok, Instr.slice, hbr, hte.run_size, Sem.run_pure, Option.map_some, add_mk]
     rw [if_neg hm, show h'.toNat - l.toNat = 0 by omega]
   rename_i hl0 hlt
   injection h with h; subst h
   refine ⟨.slice (some ⟨g.loc id, 0 + l.toNat * ei.size, none⟩) (h' - l).toNat (g.hw id - l.toNat), ?_, by rw [Nat.zero_add]; exact .hsl id _ _ _ c2 c3 (by omega)⟩
   simp only [Instr.sliceAt, Sem.run_bind, ht.run_und, hund, Result.andThen_ok, Instr.slice, hbr, hte.run_size, Sem.run_pure, Option.map_some, add_mk]
   rw [if_neg (by omega), show h'.toNat - l.toNat = (h' - l).toNat by omega]
 ·-- an array
  rename_i len e id off hund
  rw [hmx rfl]
  split at h
  case h_2 => cases h
  rename_i l h' ei hl hh hei
  have hte := hc.ty _ _ hei
  split at h
  case isFalse => cases h
  rename_i hb
  injection h with h; subst h
  obtain ⟨rfl, c2, c3⟩ := hx.inv_ptr
  have hbr := bounds_run (P := P) (w := w) (isS := false) (cap := len) (hlo _ _ hl) (hhi _ _ hh) hb.1 hb.2.1 (by omega) (Nat.le_refl _)
  refine ⟨.slice (some ⟨g.loc id, off + l.toNat * ei.size, none⟩) (h' - l).toNat (len - l.toNat), ?_, .hsl id _ _ _ c2 c3 (by omega)⟩
  simp only [Instr.sliceAt, Sem.run_bind, ht.run_und, hund, Result.andThen_ok, hbr, hte.run_size, Sem.run_pure, add_mk, Instr.sureAddr]
  rw [if_neg (by omega), show h'.toNat - l.toNat = (h' - l).toNat by omega]
 ·cases h
end
end Go.Pam
namespace Go.Pam
open Go.RowKit
section
variable {P : Program} {ctx : Ctx} {S : List SObj} {g : G} {w : World} {n : Nat}
theorem bitsOf_sound {op : BinOp} {k : IntKind} {x y : Int} {z : PV} (h : bitsOf op k x y = some z) : ∃ i, z = .int k i ∧ (Op.intBits op k x y).run P w = .ok (.int k i) w := by
 cases op <;> first
  | (simp only [bitsOf] at h; injection h with h; subst h; exact ⟨_, rfl, rfl⟩)
  | cases h
theorem intOp_sound {op : BinOp} (hsl : op ≠ .shl) (hsr : op ≠ .shr) {k : IntKind} {x y : Int} {z : PV} (t : TypeId) (h : intOp op k x y = some z) :
    ∃ v, (binOp op t (.int k x) (.int k y)).run P w = .ok v w ∧ V g w n z v := by
  cases op <;> simp only [intOp] at h
  all_goals first
    | (injection h with h; subst h; refine ⟨_, ?_, by constructor⟩; simp [binOp, Op.intArith, Op.intCmp]; done)
    | (obtain ⟨i, rfl, hr⟩ := bitsOf_sound (P := P) (w := w) h; refine ⟨_, ?_, .int _ _⟩; simpa [binOp] using hr)
    | (split at h
       · cases h
       · rename_i hy
         injection h with h; subst h
         refine ⟨_, ?_, .int _ _⟩
         simp [binOp, Op.intDiv, hy]; done)
    | (exact absurd rfl hsl)
    | (exact absurd rfl hsr)
theorem shiftOp_sound {op : BinOp} {k k' : IntKind} {x y : Int} {z : PV} (h : shiftOp op k x y = some z) :
  ∃ v, (Op.shift op k x k' y).run P w = .ok v w ∧ V g w n z v := by
 unfold shiftOp at h
 split at h
 ·cases h
 rename_i hy
 cases op <;> first
  | (injection h with h; subst h; refine ⟨_, ?_, .int _ _⟩; simp [Op.shift, hy]; done)
  | cases h
theorem ba_toList (s : ByteArray) : s.toList = s.data.toList := by
 exact ByteArray.toList_eq s
theorem ba_beq (a b : ByteArray) : (a == b) = (a.data.toList == b.data.toList) := by
 show (a.data == b.data) = _
 rw [Bool.eq_iff_iff, beq_iff_eq, beq_iff_eq]
 exact ⟨fun h => by rw [h], fun h => Array.toList_inj.1 h⟩
theorem strOp_sound {op : BinOp} {a b : ByteArray} {z : PV} (h : strOp op a.data.toList b.data.toList = some z) :
  ∃ v, (Op.stringOp op a b).run P w = .ok v w ∧ V g w n z v := by
 have la : a.data.toList.length = a.size := by simp
 have lb : b.data.toList.length = b.size := by simp
 cases op <;> simp only [strOp] at h
 case add =>
  split at h
  ·cases h
  ·rename_i hle
   injection h with h; subst h
   refine ⟨.string (a ++ b), ?_, ?_⟩
   ·rw [la, lb] at hle
    simp only [Op.stringOp]
    rw [if_neg hle]; rfl
   ·have := V.str (g := g) (w := w) (n := n) (a ++ b)
    simpa using this
 all_goals first
  | (injection h with h; subst h; refine ⟨_, rfl, ?_⟩; simp only [ba_toList]; constructor)
  | cases h
theorem eqIn_sound (hc : CtxTy P ctx) : ∀ (d : Nat) (t : TypeId) (x y : PV) (v v' : Value) (r : Bool) (D : Nat), d ≤ D → V g w n x v → V g w n y v' → eqIn ctx d t x y = some r → (Op.equalIn D t v v').run P w = .ok r w
 | 0, _, _, _, _, _, _, _, _, _, _, h => by simp [eqIn] at h
 | d + 1, t, x, y, v, v', r, D, hD, hx, hy, h => by
  obtain ⟨D, rfl⟩ : ∃ D', D = D' + 1 := ⟨D - 1, by omega⟩
  unfold eqIn at h
  split at h
  ·cases h
  rename_i ti hti
  have ht := hc.ty _ _ hti
  simp only [Op.equalIn, Sem.run_bind, ht.run_und, Result.andThen_ok]
  split at h
  ·rename_i hund; rw [hx.inv_bool, hy.inv_bool, hund]; injection h with h; subst h; rfl
  ·rename_i hund; rw [hx.inv_int, hy.inv_int, hund]
   split at h
   ·rename_i hk; injection h with h; subst h; simp [hk]
   ·cases h
  ·rename_i hund
   obtain ⟨s, rfl, h1⟩ := hx.inv_str
   obtain ⟨s', rfl, h2⟩ := hy.inv_str
   rw [hund]; injection h with h; subst h
   subst h1; subst h2
   simp only [Sem.run_pure]
   rw [ba_beq]
  ·rename_i hund; rw [hx.inv_nilp, hy.inv_nilp, hund]; injection h with h; subst h; rfl
  ·rename_i hund; rw [hx.inv_nilp, hy.inv_ptr.1, hund]; injection h with h; subst h; rfl
  ·rename_i hund; rw [hx.inv_ptr.1, hy.inv_nilp, hund]; injection h with h; subst h; rfl
  ·rename_i hund
   obtain ⟨b, o, u, rfl, _⟩ := hy.inv_iptr
   rw [hx.inv_nilp, hund]; injection h with h; subst h; rfl
  ·rename_i hund
   obtain ⟨b, o, u, rfl, _⟩ := hx.inv_iptr
   rw [hy.inv_nilp, hund]; injection h with h; subst h; rfl
  ·rename_i hund; rw [hx.inv_nili, hy.inv_nili, hund]; injection h with h; subst h; rfl
  ·rename_i hund
   obtain ⟨y', rfl, _⟩ := hy.inv_ifc
   rw [hx.inv_nili, hund]; injection h with h; subst h; rfl
  ·rename_i hund
   obtain ⟨y', rfl, _⟩ := hx.inv_ifc
   rw [hy.inv_nili, hund]; injection h with h; subst h; rfl
  ·rename_i hund
   obtain ⟨x', rfl, hx'⟩ := hx.inv_ifc
   obtain ⟨y', rfl, hy'⟩ := hy.inv_ifc
   rw [hund]
   split at h
   ·rename_i hne; injection h with h; subst h; simp [hne]
   ·rename_i heq
    simp only [Decidable.not_not] at heq
    subst heq
    split at h
    ·cases h
    rename_i tj htj
    split at h
    ·rename_i hcomp
     have htj' := hc.ty _ _ htj
     obtain ⟨i, z, i1, _, _, _, _, _, i7, _⟩ := htj'.info
     have := eqIn_sound hc d _ _ _ x' y' r D (by omega) hx' hy' h
     simp [typeInfo, i1, i7, hcomp, this]
    ·cases h
  ·rename_i fs xs ys hund
   obtain ⟨xs', rfl, x1, x2, x3⟩ := hx.inv_agg
   obtain ⟨ys', rfl, y1, y2, y3⟩ := hy.inv_agg
   rw [hund]
   split at h
   case isFalse => cases h
   rename_i hok
   obtain ⟨k1, k2⟩ := ht.eqok hok
   have hf : P.fieldsOf t = fs := by simp [Program.fieldsOf, ht.und, hund]
   have key : ∀ (l : List Field) (r : Bool), eqFields ctx (eqIn ctx d) l xs ys = some r → (Op.eqFields D xs' ys' l).run P w = .ok r w := by
    intro l
    induction l with
    | nil => intro r h; simp [eqFields] at h; subst h; simp [Op.eqFields]
    | cons f l ih =>
     intro r h
     simp only [eqFields] at h
     simp only [Op.eqFields]
     split at h
     ·rename_i hn
      rw [if_neg (by simpa using hn)]
      exact ih r h
     ·rename_i hn
      rw [if_pos hn]
      split at h
      case h_2 => cases h
      rename_i p q hp hq
      obtain ⟨p', hp1, hp2⟩ := part_sound (P := P) hc x1 x2 x3 hp
      obtain ⟨q', hq1, hq2⟩ := part_sound (P := P) hc y1 y2 y3 hq
      split at h
      ·rename_i he
       have := eqIn_sound hc d _ _ _ p' q' true D (by omega) hp2 hq2 he
       simp [hp1, hq1, this]
       exact ih r h
      ·rename_i he
       have := eqIn_sound hc d _ _ _ p' q' false D (by omega) hp2 hq2 he
       injection h with h; subst h
       simp [hp1, hq1, this]
      ·cases h
   have := run_equalIn_struct (P := P) w D t xs' ys' (by rw [hf, ht.und, hund]) k2
   rw [hf] at this
   unfold Op.equalIn at this
   rw [Sem.run_bind, ht.run_und, Result.andThen_ok, hund] at this
   rw [this]
   exact key _ _ h
  ·rename_i hund; rw [hx.inv_nils, hy.inv_nils, hund]; injection h with h; subst h; rfl
  ·rename_i hund
   rcases hy.inv_lst with ⟨_, _, a, rfl⟩ | ⟨b, o, cap, sz, u, rfl, _⟩ <;> (rw [hx.inv_nils, hund]; injection h with h; subst h; rfl)
  ·rename_i hund
   rcases hx.inv_lst with ⟨_, _, a, rfl⟩ | ⟨b, o, cap, sz, u, rfl, _⟩ <;> (rw [hy.inv_nils, hund]; injection h with h; subst h; rfl)
  ·rename_i hund
   obtain ⟨cap, rfl, _⟩ := hy.inv_hsl
   rw [hx.inv_nils, hund]; injection h with h; subst h; rfl
  ·rename_i hund
   obtain ⟨cap, rfl, _⟩ := hx.inv_hsl
   rw [hy.inv_nils, hund]; injection h with h; subst h; rfl
  ·rename_i hund
   obtain ⟨rfl, _⟩ := hy.inv_rsl
   rw [hx.inv_nils, hund]; injection h with h; subst h; rfl
  ·rename_i hund
   obtain ⟨rfl, _⟩ := hx.inv_rsl
   rw [hy.inv_nils, hund]; injection h with h; subst h; rfl
  ·rename_i hund
   obtain ⟨a, rfl⟩ := hy.inv_emp
   rw [hx.inv_nils, hund]; injection h with h; subst h; rfl
  ·rename_i hund
   obtain ⟨a, rfl⟩ := hx.inv_emp
   rw [hy.inv_nils, hund]; injection h with h; subst h; rfl
  ·rename_i hund; rw [hx.inv_nilm, hy.inv_nilm, hund]; injection h with h; subst h; rfl
  ·rename_i hund; rw [hx.inv_nilm, hy.inv_map.1, hund]; injection h with h; subst h; rfl
  ·rename_i hund; rw [hx.inv_map.1, hy.inv_nilm, hund]; injection h with h; subst h; rfl
  ·rename_i hund; rw [hx.inv_nilf, hy.inv_nilf, hund]; injection h with h; subst h; rfl
  ·rename_i hund
   obtain ⟨as, bs, rfl, _⟩ := hy.inv_fn
   rw [hx.inv_nilf, hund]; injection h with h; subst h; rfl
  ·rename_i hund
   obtain ⟨as, bs, rfl, _⟩ := hx.inv_fn
   rw [hy.inv_nilf, hund]; injection h with h; subst h; rfl
  ·cases h
end
end Go.Pam
namespace Go.Pam
open Go.RowKit
section
variable {P : Program} {ctx : Ctx} {S : List SObj} {g : G} {w : World} {n : Nat}
theorem eqIn_agg (hc : CtxTy P ctx) {d : Nat} {t : TypeId} {xs ys : List PV} {r : Bool} (h : eqIn ctx d t (.agg xs) (.agg ys) = some r) : P.eqGuardType P.depth t = false := by
  cases d with
  | zero => simp [eqIn] at h
  | succ d =>
    unfold eqIn at h
    split at h
    · cases h
    rename_i ti hti
    split at h <;> first
      | (rename_i h1 h2; cases h1; done)
      | skip
    all_goals first
      | (split at h
         · rename_i hok
           exact ((hc.ty _ _ hti).eqok hok).1
         · cases h)
      | cases h
theorem eqIn_poison {d : Nat} {t : TypeId} {x y : PV} {r : Bool} (h : eqIn ctx d t x y = some r) : x ≠ .poison ∧ y ≠ .poison := by
 cases d with
 | zero => simp [eqIn] at h
 | succ d =>
  constructor
  ·rintro rfl
   unfold eqIn at h
   split at h
   ·cases h
   split at h <;> first
    | (rename_i q1 q2 q3; cases q2; done)
    | (rename_i q1 q2; cases q2; done)
    | (rename_i q1 q2; cases q1; done)
    | (rename_i q1; cases q1; done)
    | cases h
  ·rintro rfl
   unfold eqIn at h
   split at h
   ·cases h
   split at h <;> first
    | (rename_i q1 q2 q3; cases q3; done)
    | (rename_i q1 q2; cases q2; done)
    | (rename_i q1 q2; cases q1; done)
    | (rename_i q1; cases q1; done)
    | cases h
theorem eqGuard_run (hc : CtxTy P ctx) {op : BinOp} {t : TypeId} {xo yo : Operand} {x y : PV} {v v' : Value} {r : Bool} {d : Nat} (hx : V g w n x v) (hy : V g w n y v')
  (hg : eqGuardOk xo yo x y = true) (h : eqIn ctx d t x y = some r) : (eqGuard op t xo yo v v').run P w = .ok () w := by
 obtain ⟨p1, p2⟩ := eqIn_poison h
 by_cases h1 : v = .nilIface ∧ v' = .nilIface
 ·obtain ⟨rfl, rfl⟩ := h1
  have ex : x = .nili := by cases hx <;> first | rfl | exact absurd rfl p1
  have ey : y = .nili := by cases hy <;> first | rfl | exact absurd rfl p2
  subst ex; subst ey
  simp only [eqGuardOk, Bool.or_eq_true] at hg
  cases xo with
  | const c => cases op <;> rfl
  | _ =>
   cases yo with
   | const c => cases op <;> rfl
   | _ => simp at hg
 ·by_cases h2 : ∃ cs ds, v = .agg cs ∧ v' = .agg ds
  ·obtain ⟨cs, ds, rfl, rfl⟩ := h2
   have ex : ∃ z, x = .agg z := by cases hx <;> first | exact ⟨_, rfl⟩ | exact absurd rfl p1
   have ey : ∃ z, y = .agg z := by cases hy <;> first | exact ⟨_, rfl⟩ | exact absurd rfl p2
   obtain ⟨_, rfl⟩ := ex
   obtain ⟨_, rfl⟩ := ey
   have := eqIn_agg hc h
   cases op <;> first | rfl | simp [eqGuard, this]
  ·cases op <;> try rfl
   all_goals (cases v <;> try rfl)
   all_goals (cases v' <;> first | rfl | (exfalso; exact h1 ⟨rfl, rfl⟩) | (exfalso; exact h2 ⟨_, _, rfl, rfl⟩))
def other (v v' : Value) : Prop := (∀ k a k' b, v = .int k a → v' = .int k' b → False) ∧ (∀ a b, v = .string a → v' = .string b → False) ∧ (∀ k a, v ≠ .float k a) ∧ (∀ k a b, v ≠ .complex k a b)
theorem binOp_eql {t : TypeId} {v v' : Value} (h : other v v') : binOp .eql t v v' = (do pure (.bool (← Op.equal t v v'))) := by
 obtain ⟨h1, h2, h3, h4⟩ := h
 cases v <;> cases v' <;> first
  | rfl
  | exact (h1 _ _ _ _ rfl rfl).elim
  | exact (h2 _ _ rfl rfl).elim
  | exact (h3 _ _ rfl).elim
  | exact (h4 _ _ _ rfl).elim
theorem binOp_neq {t : TypeId} {v v' : Value} (h : other v v') : binOp .neq t v v' = (do pure (.bool (!(← Op.equal t v v')))) := by
 obtain ⟨h1, h2, h3, h4⟩ := h
 cases v <;> cases v' <;> first
  | rfl
  | exact (h1 _ _ _ _ rfl rfl).elim
  | exact (h2 _ _ rfl rfl).elim
  | exact (h3 _ _ rfl).elim
  | exact (h4 _ _ _ rfl).elim
theorem other_of {x y : PV} {v v' : Value} (hx : V g w n x v) (hy : V g w n y v') (p1 : x ≠ .poison) (p2 : y ≠ .poison)
  (h1 : ∀ k a k' b, x = .int k a → y = .int k' b → False) (h2 : ∀ a b, x = .str a → y = .str b → False) : other v v' := by
 refine ⟨?_, ?_, ?_, ?_⟩
 ·rintro k a k' b rfl rfl
  cases hx with
  | poison => exact p1 rfl
  | int => cases hy with
   | poison => exact p2 rfl
   | int => exact h1 _ _ _ _ rfl rfl
 ·rintro a b rfl rfl
  cases hx with
  | poison => exact p1 rfl
  | str => cases hy with
   | poison => exact p2 rfl
   | str => exact h2 _ _ rfl rfl
 ·rintro k a rfl
  cases hx
  exact p1 rfl
 ·rintro k a b rfl
  cases hx
  exact p1 rfl
theorem binPV_sound (hc : CtxTy P ctx) {op : BinOp} {t : TypeId} {xo yo : Operand} {x y z : PV} {v v' : Value} (hx : V g w n x v) (hy : V g w n y v') (h : binPV ctx op t xo yo x y = some z) :
  ∃ u, ((do eqGuard op t xo yo v v'; binOp op t v v') : Sem Value).run P w = .ok u w ∧ V g w n z u := by
 unfold binPV at h
 split at h
 ·rename_i k a k' b
  rw [hx.inv_int, hy.inv_int]
  obtain ⟨u, h1, h2⟩ := shiftOp_sound (P := P) (g := g) (w := w) (n := n) (k' := k') h
  exact ⟨u, by simpa [eqGuard_at_int, binOp] using h1, h2⟩
 ·rename_i k a k' b
  rw [hx.inv_int, hy.inv_int]
  obtain ⟨u, h1, h2⟩ := shiftOp_sound (P := P) (g := g) (w := w) (n := n) (k' := k') h
  exact ⟨u, by simpa [eqGuard_at_int, binOp] using h1, h2⟩
 ·rename_i k a k' b hsl hsr
  rw [hx.inv_int, hy.inv_int]
  split at h
  ·cases h
  rename_i hk
  simp only [Decidable.not_not] at hk
  subst hk
  have e1 : op ≠ .shl := by rintro rfl; exact hsl rfl
  have e2 : op ≠ .shr := by rintro rfl; exact hsr rfl
  obtain ⟨u, h1, h2⟩ := intOp_sound (P := P) (g := g) (w := w) (n := n) e1 e2 t h
  exact ⟨u, by simpa [eqGuard_at_int] using h1, h2⟩
 ·rename_i a b
  obtain ⟨s, rfl, rfl⟩ := hx.inv_str
  obtain ⟨s', rfl, rfl⟩ := hy.inv_str
  obtain ⟨u, h1, h2⟩ := strOp_sound (P := P) (g := g) (w := w) (n := n) h
  exact ⟨u, by simpa [eqGuard_at_string, binOp] using h1, h2⟩
 ·split at h
  case isFalse => cases h
  rename_i hg
  cases he : eqIn ctx 40 t x y with
  | none => simp [he] at h
  | some r =>
   simp [he] at h; subst h
   have h1 := eqGuard_run hc (op := .eql) hx hy hg he
   have h2 := eqIn_sound hc 40 t x y v v' r Op.maxDepth (by decide) hx hy he
   obtain ⟨p1, p2⟩ := eqIn_poison he
   have ho := other_of hx hy p1 p2 (by rintro k a k' b rfl rfl; simp_all; rename_i q; exact q k a k' b rfl rfl rfl rfl) (by rintro a b rfl rfl; simp_all)
   refine ⟨.bool r, ?_, .bool r⟩
   simp only [Sem.run_bind, h1, Result.andThen_ok, binOp_eql ho, Op.equal, h2, Sem.run_pure]
 ·split at h
  case isFalse => cases h
  rename_i hg
  cases he : eqIn ctx 40 t x y with
  | none => simp [he] at h
  | some r =>
   simp [he] at h; subst h
   have h1 := eqGuard_run hc (op := .neq) hx hy hg he
   have h2 := eqIn_sound hc 40 t x y v v' r Op.maxDepth (by decide) hx hy he
   obtain ⟨p1, p2⟩ := eqIn_poison he
   have ho := other_of hx hy p1 p2 (by rintro k a k' b rfl rfl; simp_all; rename_i q; exact q k a k' b rfl rfl rfl rfl) (by rintro a b rfl rfl; simp_all)
   refine ⟨.bool !r, ?_, .bool _⟩
   simp only [Sem.run_bind, h1, Result.andThen_ok, binOp_neq ho, Op.equal, h2, Sem.run_pure]
 ·cases h
theorem unPV_sound {op : UnOp} {x z : PV} {v : Value} (hx : V g w n x v) (h : unPV op x = some z) : ∃ u, (Op.unary op v).run P w = .ok u w ∧ V g w n z u := by
 unfold unPV at h
 split at h
 ·rename_i k i
  rw [hx.inv_int]
  injection h with h; subst h
  exact ⟨_, rfl, .int _ _⟩
 ·rename_i k i
  rw [hx.inv_int]
  obtain ⟨j, rfl, h1⟩ := bitsOf_sound (P := P) (w := w) h
  exact ⟨_, h1, .int _ _⟩
 ·rename_i b
  rw [hx.inv_bool]
  injection h with h; subst h
  exact ⟨_, rfl, .bool _⟩
 ·cases h
end
end Go.Pam
namespace Go.Pam
open Go.RowKit
theorem R.newRow {S : List SObj} {w : World} {g : G} {base : Nat} {bd : Nat → Nat} (h : R S w g base bd) (o : Obj) (p : Nat) :
  R S (w.alloc o) (g.new S.length w.heap.size p 0 0 false) base bd ∧ Evo S.length g w (g.new S.length w.heap.size p 0 0 false) (w.alloc o) := by
 have hpp := h.hpp w.heap.size (Nat.le_refl _)
 have hgB := h.hfix
 have evo : Evo S.length g w (g.new S.length w.heap.size p 0 0 false) (w.alloc o) := Evo.newBlock o (Nat.le_refl _) hpp hgB
 have old : ∀ (id : Nat) (x : SObj), S[id]? = some x → id < S.length := fun id x hx => (List.getElem?_eq_some_iff.1 hx).1
 refine ⟨⟨h.hbase, h.hbd, fun k hk => by have := h.hfix k hk; simp; omega, ?_, ?_, ?_⟩, evo⟩
 ·intro b hb'
  simp only [G.new, World.size_alloc] at hb' ⊢
  rw [if_neg (by omega)]
  exact h.hpp b (by omega)
 ·intro id x hx
  have hi := old id x hx
  have hl := h.live id x hx
  refine hl.evo (evo.mono (lim_le h id)) ?_ ?_ ?_ ?_ ?_
  ·simp only [G.new]; rw [if_neg (by omega)]
  ·simp only [G.new]; rw [if_neg (by omega)]
  ·simp only [G.new]; rw [if_neg (by omega)]
  ·simp only [G.new]; rw [if_neg (by omega)]
  ·intro hd _
   have hlt := hl.loc_lt hd
   refine ⟨Below.heap_alloc w o _ hlt, ?_⟩
   simp only [G.new]; rw [if_neg (by omega)]
 ·intro i j x y hx hy hxd hyd hloc
  have hi := old i x hx
  have hj := old j y hy
  simp only [G.new] at hloc
  rw [if_neg (by omega), if_neg (by omega)] at hloc
  exact h.inj i j x y hx hy hxd hyd hloc
def Flat (g : G) (w : World) (n sz : Nat) (xs : List PV) (us : List Value) : Prop :=
 us.length = xs.length * sz ∧ (∀ (i : Nat) (x : PV), xs[i]? = some x → x.cells.length = sz) ∧
 (∀ (i : Nat) (x : PV) (j : Nat) (c : PV), xs[i]? = some x → x.cells[j]? = some c → V g w n c (us.getD (i * sz + j) undef)) ∧ (∀ u ∈ us, u.oneCell' = true)
section
variable {g g' : G} {w w' : World} {n sz : Nat} {xs ys : List PV} {us vs : List Value}
theorem Flat.nil (g : G) (w : World) (n sz : Nat) : Flat g w n sz [] [] :=
 ⟨by simp, fun i x h => by simp at h, fun i x j c h => by simp at h, fun u h => by simp at h⟩
theorem Flat.evo (h : Flat g w n sz xs us) (e : Evo n g w g' w') : Flat g' w' n sz xs us := ⟨h.1, h.2.1, fun i x j c hi hj => (h.2.2.1 i x j c hi hj).evo e, h.2.2.2⟩
theorem Flat.mono {m : Nat} (h : Flat g w n sz xs us) (hm : n ≤ m) : Flat g w m sz xs us := ⟨h.1, h.2.1, fun i x j c hi hj => (h.2.2.1 i x j c hi hj).mono hm, h.2.2.2⟩
theorem idx_lt {i j sz len : Nat} (hi : i < len) (hj : j < sz) : i * sz + j < len * sz := by
 have : (i + 1) * sz ≤ len * sz := Nat.mul_le_mul_right _ hi
 rw [Nat.add_mul] at this; omega
theorem Flat.append (h : Flat g w n sz xs us) (k : Flat g w n sz ys vs) : Flat g w n sz (xs ++ ys) (us ++ vs) := by
 refine ⟨by simp [h.1, k.1, Nat.add_mul], fun i x hi => ?_, fun i x j c hi hj => ?_, fun u hu => ?_⟩
 ·rcases Nat.lt_or_ge i xs.length with hl | hl
  ·rw [List.getElem?_append_left hl] at hi; exact h.2.1 i x hi
  ·rw [List.getElem?_append_right hl] at hi; exact k.2.1 _ x hi
 ·rcases Nat.lt_or_ge i xs.length with hl | hl
  ·rw [List.getElem?_append_left hl] at hi
   have hc := h.2.1 i x hi
   have hj' := (List.getElem?_eq_some_iff.1 hj).1
   have := h.2.2.1 i x j c hi hj
   rw [List.getD_eq_getElem?_getD] at this ⊢
   rw [List.getElem?_append_left (by rw [h.1]; exact idx_lt hl (by omega))]
   exact this
  ·rw [List.getElem?_append_right hl] at hi
   have hc := k.2.1 _ x hi
   have hj' := (List.getElem?_eq_some_iff.1 hj).1
   have := k.2.2.1 _ x j c hi hj
   have hge : us.length ≤ i * sz + j := by
    rw [h.1]
    have : xs.length * sz ≤ i * sz := Nat.mul_le_mul_right _ hl
    omega
   rw [List.getD_eq_getElem?_getD] at this ⊢
   rw [List.getElem?_append_right hge, h.1]
   have e : i * sz + j - xs.length * sz = (i - xs.length) * sz + j := by
    rw [Nat.sub_mul]
    have : xs.length * sz ≤ i * sz := Nat.mul_le_mul_right _ hl
    omega
   rw [e]
   exact this
 ·rcases List.mem_append.1 hu with hu | hu
  ·exact h.2.2.2 u hu
  ·exact k.2.2.2 u hu
theorem Flat.lst (h : Flat g w n sz xs us) {b o cap : Nat} {tag : Tag} (hcap : xs.length ≤ cap) (hpp : ∀ k, k < us.length → o + k < g.pp b)
  (hcell : ∀ (k : Nat) (u : Value), us[k]? = some u → w.cell? ⟨b, o + k, none⟩ = some u) (ht : TagOk g w n tag b o xs.length cap sz) : V g w n (.lst xs tag) (.slice (some ⟨b, o, none⟩) xs.length cap) := by
 have lt : ∀ (i : Nat) (x : PV) (j : Nat), xs[i]? = some x → j < sz → i * sz + j < us.length := fun i x j hi hj => by
  rw [h.1]; exact idx_lt (List.getElem?_eq_some_iff.1 hi).1 hj
 have jl : ∀ (i : Nat) (x : PV) (j : Nat) (c : PV), xs[i]? = some x → x.cells[j]? = some c → j < sz := fun i x j c hi hj => by
  rw [← h.2.1 i x hi]; exact (List.getElem?_eq_some_iff.1 hj).1
 refine .lst xs tag b o cap sz (fun i j => us.getD (i * sz + j) undef) hcap h.2.1 (fun i x j c hi hj => ?_) (fun i x j c hi hj => ?_) h.2.2.1 (fun i x j hi hj => ?_) ht
 ·have := hpp _ (lt i x j hi (jl i x j c hi hj)); omega
 ·have hl := lt i x j hi (jl i x j c hi hj)
  rw [Nat.add_assoc, hcell _ us[i * sz + j] (List.getElem?_eq_getElem hl), List.getD_eq_getElem?_getD, List.getElem?_eq_getElem hl]
  rfl
 ·have hl := lt i x j hi hj
  rw [List.getD_eq_getElem?_getD, List.getElem?_eq_getElem hl]
  exact h.2.2.2 _ (List.getElem_mem _)
theorem V.flat {tag : Tag} {v : Value} (h : V g w n (.lst xs tag) v) (hne : xs ≠ [] ∨ tag ≠ .none) : ∃ b o cap sz us, v = .slice (some ⟨b, o, none⟩) xs.length cap ∧ xs.length ≤ cap ∧ Flat g w n sz xs us ∧
  (∀ k, k < us.length → o + k < g.pp b) ∧ (∀ (k : Nat) (u : Value), us[k]? = some u → w.cell? ⟨b, o + k, none⟩ = some u) ∧ TagOk g w n tag b o xs.length cap sz := by
 rcases h.inv_lst with ⟨rfl, rfl, _⟩ | ⟨b, o, cap, sz, u, rfl, h0, h1, h2, h3, h4, h5, h6⟩
 ·rcases hne with h | h <;> exact absurd rfl h
 have dm : ∀ k, k < xs.length * sz → ∃ i j x c, k = i * sz + j ∧ xs[i]? = some x ∧ x.cells[j]? = some c ∧ j < sz ∧ u (k / sz) (k % sz) = u i j := by
  intro k hk
  have hsz : 0 < sz := by exact (Nat.eq_zero_or_pos sz).elim (fun e => by rw [e] at hk; simp at hk) id
  have hi : k / sz < xs.length := Nat.div_lt_of_lt_mul (by rw [Nat.mul_comm]; exact hk)
  have hj : k % sz < sz := Nat.mod_lt _ hsz
  have hx := List.getElem?_eq_getElem hi
  have hc : (xs[k / sz]).cells[k % sz]? = some _ := List.getElem?_eq_getElem (by rw [h1 _ _ hx]; exact hj)
  exact ⟨k / sz, k % sz, _, _, by have := Nat.div_add_mod k sz; rw [Nat.mul_comm] at this; omega, hx, hc, hj, rfl⟩
 refine ⟨b, o, cap, sz, (List.range (xs.length * sz)).map fun k => u (k / sz) (k % sz), rfl, h0, ⟨by simp, h1, ?_, ?_⟩, ?_, ?_, h6⟩
 ·intro i x j c hi hj
  have hjl : j < sz := by rw [← h1 i x hi]; exact (List.getElem?_eq_some_iff.1 hj).1
  have hl := idx_lt (List.getElem?_eq_some_iff.1 hi).1 hjl
  rw [List.getD_eq_getElem?_getD, List.getElem?_map, List.getElem?_range hl]
  have e1 : (i * sz + j) / sz = i := by rw [Nat.mul_comm, Nat.mul_add_div (by omega), Nat.div_eq_of_lt hjl]; omega
  have e2 : (i * sz + j) % sz = j := by rw [Nat.mul_comm, Nat.mul_add_mod, Nat.mod_eq_of_lt hjl]
  simp only [Option.map_some, Option.getD_some, e1, e2]
  exact h4 i x j c hi hj
 ·intro z hz
  simp only [List.mem_map, List.mem_range] at hz
  obtain ⟨k, hk, rfl⟩ := hz
  obtain ⟨i, j, x, c, _, hi, _, hj, e⟩ := dm k hk
  rw [e]; exact h5 i x j hi hj
 ·intro k hk
  simp only [List.length_map, List.length_range] at hk
  obtain ⟨i, j, x, c, rfl, hi, hj, _, _⟩ := dm k hk
  have := h2 i x j c hi hj; omega
 ·intro k z hz
  have hk : k < xs.length * sz := by have := (List.getElem?_eq_some_iff.1 hz).1; simpa using this
  rw [List.getElem?_map, List.getElem?_range hk] at hz
  simp only [Option.map_some] at hz
  injection hz with hz; subst hz
  obtain ⟨i, j, x, c, e0, hi, hj, _, e⟩ := dm k hk
  rw [e]
  have := h3 i x j c hi hj
  rw [e0, ← Nat.add_assoc]; exact this
end
/-! Laying parts into cells -/
theorem lay_get : ∀ (vs : List Value) (off j0 : Nat) (cells : Array Value), 
  let r := (vs.zipIdx j0).foldl (fun cs (p : Value × Nat) => cs.setIfInBounds (off + p.2) p.1) cells
  r.size = cells.size ∧ ∀ k, k < cells.size → r[k]? = if off + j0 ≤ k ∧ k < off + j0 + vs.length then vs[k - (off + j0)]? else cells[k]?
 | [], off, j0, cells => ⟨rfl, fun k hk => by rw [if_neg (by simp only [List.length_nil]; omega)]; rfl⟩
 | v :: vs, off, j0, cells => by
  have ih := lay_get vs off (j0 + 1) (cells.setIfInBounds (off + j0) v)
  simp only [List.zipIdx_cons, List.foldl_cons] at ih ⊢
  obtain ⟨i1, i2⟩ := ih
  refine ⟨by simpa using i1, fun k hk => ?_⟩
  rw [i2 k (by simpa using hk)]
  by_cases h1 : k = off + j0
  ·subst h1
   rw [if_neg (by omega), if_pos (by simp)]
   simp [hk]
  ·by_cases h2 : off + j0 ≤ k ∧ k < off + j0 + (vs.length + 1)
   ·rw [if_pos (by omega), if_pos (by simpa using h2)]
    rw [show k - (off + j0) = k - (off + (j0 + 1)) + 1 by omega, List.getElem?_cons_succ]
   ·rw [if_neg (by omega), if_neg (by simpa using h2)]
    rw [Array.getElem?_setIfInBounds_ne (by omega)]
theorem fill_step {place : Nat → Option (Nat × Nat)} {cells : Array Value} {i off size : Nat} {v : Value} {rest : List (Nat × Value)} (hp : place i = some (off, size)) (h1 : v.cells.size = size) (h2 : off + size ≤ cells.size) :
  ∃ r : Array Value, Instr.fill place cells ((i, v) :: rest) = Instr.fill place r rest ∧ r.size = cells.size ∧ ∀ k, k < cells.size → r[k]? = if off ≤ k ∧ k < off + size then v.cells[k - off]? else cells[k]? := by
 have := lay_get v.cells.toList off 0 cells
 simp only [Nat.add_zero, Array.length_toList, Array.getElem?_toList, h1] at this
 obtain ⟨t1, t2⟩ := this
 refine ⟨_, ?_, t1, t2⟩
 simp only [Instr.fill, hp]
 rw [if_neg (by simp [h1]; omega), ← Array.foldl_toList, Array.toList_zipIdx]
section
variable {P : Program} {ctx : Ctx} {S : List SObj} {g : G} {w : World} {n : Nat} {base : Nat} {bd : Nat → Nat}
def Parts (g : G) (w : World) (n : Nat) : List (Nat × PV) → List (Nat × Value) → Prop
 | [], [] => True
 | p :: ps, q :: qs => p.1 = q.1 ∧ V g w n p.2 q.2 ∧ Parts g w n ps qs
 | _, _ => False
theorem fillPV_sound {place : Nat → Option (Nat × Nat)} : ∀ (ps : List (Nat × PV)) (qs : List (Nat × Value)) (cs : List PV) (cs' : Array Value) (r : List PV), Parts g w n ps qs → cs.length = cs'.size →
  (∀ (i : Nat) (c : PV), cs[i]? = some c → V g w n c (cs'.getD i undef)) → (∀ v ∈ cs', v.oneCell' = true) → fillPV place cs ps = some r →
  ∃ r' : Array Value, Instr.fill place cs' qs = some r' ∧ r.length = r'.size ∧ (∀ (i : Nat) (c : PV), r[i]? = some c → V g w n c (r'.getD i undef)) ∧ (∀ v ∈ r', v.oneCell' = true)
 | [], [], cs, cs', r, _, h1, h2, h3, h => by
  simp [fillPV] at h; subst h
  exact ⟨cs', rfl, h1, h2, h3⟩
 | (i, x) :: ps, (i', v) :: qs, cs, cs', r, hp, h1, h2, h3, h => by
  obtain ⟨rfl, hv, hps⟩ := hp
  simp only [fillPV] at h
  split at h
  ·cases h
  rename_i off size hpl
  split at h
  ·cases h
  rename_i hn
  simp only [not_or, Bool.not_eq_false, Decidable.not_not, Nat.not_lt] at hn
  obtain ⟨n1, n2, n3⟩ := hn
  obtain ⟨y1, y2, y3⟩ := hv.storable n1
  obtain ⟨r1, f1, f2, f3⟩ := fill_step (rest := qs) hpl (y1.trans n2) (show off + size ≤ cs'.size by omega)
  rw [f1]
  have hsp := fun j => splice_get (cs := cs) (xs := x.cells) (off := off) (by omega) j
  have hlen := splice_len (cs := cs) (xs := x.cells) (off := off) (by omega)
  rw [n2] at hlen
  simp only [n2] at hsp
  refine fillPV_sound ps qs _ r1 r hps (by omega) (fun k c hk => ?_) (fun u hu => ?_) h
  ·rw [hsp] at hk
   have hkl : k < cs'.size := by
    have : k < (cs.take off ++ x.cells ++ cs.drop (off + size)).length := by
     rcases Nat.lt_or_ge k (cs.take off ++ x.cells ++ cs.drop (off + size)).length with q | q
     ·exact q
     ·rw [← hsp, List.getElem?_eq_none q] at hk; cases hk
    omega
   rw [Array.getD_eq_getD_getElem?, f3 k hkl]
   split at hk
   ·rw [if_neg (by omega), ← Array.getD_eq_getD_getElem?]; exact h2 k c hk
   ·split at hk
    ·rw [if_pos (by omega), ← Array.getD_eq_getD_getElem?]; exact y2 _ c hk
    ·rw [if_neg (by omega), ← Array.getD_eq_getD_getElem?]; exact h2 k c hk
  ·obtain ⟨k, hk, rfl⟩ := Array.mem_iff_getElem.1 hu
   have := f3 k (by omega)
   rw [Array.getElem?_eq_getElem hk] at this
   split at this
   ·exact y3 _ (Array.mem_of_getElem? this.symm)
   ·exact h3 _ (Array.mem_of_getElem? this.symm)
 | [], _ :: _, _, _, _, h, _, _, _, _ => h.elim
 | _ :: _, [], _, _, _, h, _, _, _, _ => h.elim
theorem placesOf_sound (hc : CtxTy P ctx) : ∀ (fs : List Field) (pl : List (Nat × Nat)), placesOf ctx fs = some pl → fs.mapM (fun f => (P.info? f.type).map fun i => (f.offset, i.size)) = some pl
 | [], pl, h => by simp [placesOf] at h; subst h; rfl
 | f :: fs, pl, h => by
  simp only [placesOf] at h
  split at h
  ·rename_i fi l hfi hl
   injection h with h; subst h
   obtain ⟨i, z, h1, h2, _⟩ := (hc.ty _ _ hfi).info
   have := placesOf_sound hc fs l hl
   simp only [List.mapM_cons, h1, Option.map_some, h2, this]
   rfl
  ·cases h
theorem step_build (hc : CtxTy P ctx) {t : TypeId} {ps : List (Nat × PV)} {qs : Array (Nat × Value)} {y : PV} (hp : Parts g w n ps qs.toList) (h : buildPV ctx t ps = some y) :
  ∃ v, (Instr.build t qs).run P w = .ok v w ∧ V g w n y v := by
 unfold buildPV at h
 split at h
 ·cases h
 rename_i ti hti
 have ht := hc.ty _ _ hti
 obtain ⟨i, z, i1, i2, i3, i4, i5, i6, _⟩ := ht.info
 split at h
 ·cases h
 rename_i hst
 obtain ⟨z1, z2, z3⟩ := (absV_sound g w n i5).storable (by simpa using hst)
 split at h
 ·rename_i fs hund
  split at h
  case h_2 => cases h
  rename_i pl hpl
  cases hf : fillPV (fun i => pl[i]?) ti.zero.cells ps with
  | none => simp [hf] at h
  | some r =>
   simp [hf] at h; subst h
   obtain ⟨r', r1, r2, r3, r4⟩ := fillPV_sound ps qs.toList _ z.cells r hp z1.symm z2 z3 hf
   refine ⟨.agg r', run_build w t qs r' ?_, .agg r r' r2 r3 r4⟩
   unfold Program.built
   simp only [i1, ht.und, hund, i4, placesOf_sound hc _ _ hpl]
   simpa using r1
 ·rename_i len e hund
  split at h
  case h_2 => cases h
  rename_i ei hei
  obtain ⟨j, z', j1, j2, _⟩ := (hc.ty _ _ hei).info
  cases hf : fillPV (fun i => some (i * ei.size, ei.size)) ti.zero.cells ps with
  | none => simp [hf] at h
  | some r =>
   simp [hf] at h; subst h
   obtain ⟨r', r1, r2, r3, r4⟩ := fillPV_sound ps qs.toList _ z.cells r hp z1.symm z2 z3 hf
   refine ⟨.agg r', run_build w t qs r' ?_, .agg r r' r2 r3 r4⟩
   unfold Program.built
   simp only [i1, ht.und, hund, i4, j1, j2]
   exact r1
 ·cases h
theorem V.flat' {xs : List PV} {tag : Tag} {v : Value} (h : V g w n (.lst xs tag) v) : (xs = [] ∧ tag = .none ∧ ∃ a, v = .slice (some a) 0 0) ∨ ∃ b o cap sz us, v = .slice (some ⟨b, o, none⟩) xs.length cap ∧ xs.length ≤ cap ∧ Flat g w n sz xs us ∧
  (∀ k, k < us.length → o + k < g.pp b) ∧ (∀ (k : Nat) (u : Value), us[k]? = some u → w.cell? ⟨b, o + k, none⟩ = some u) ∧ TagOk g w n tag b o xs.length cap sz := by
 cases h with
 | lst0 a => exact .inl ⟨rfl, rfl, a, rfl⟩
 | lst _ _ b o cap sz u hc h1 h2 h3 h4 h5 ht =>
  by_cases hne : xs ≠ [] ∨ tag ≠ .none
  ·exact .inr ((V.lst xs tag b o cap sz u hc h1 h2 h3 h4 h5 ht).flat hne)
  ·have hx : xs = [] := Classical.byContradiction fun h => hne (.inl h)
   subst hx
   exact .inr ⟨b, o, cap, sz, [], rfl, hc, ⟨by simp, by simp, by simp, by simp⟩, by simp, by simp, ht⟩
theorem setParts_sound {size : Nat} : ∀ (ps : List (Nat × PV)) (qs : List (Nat × Value)) (xs : List PV) (us : Array Value) (r : List PV), Parts g w n ps qs → Flat g w n size xs us.toList →
  setParts size xs ps = some r → ∃ r' : Array Value, Instr.fill (fun i => some (i * size, size)) us qs = some r' ∧ Flat g w n size r r'.toList ∧ r.length = xs.length
 | [], [], xs, us, r, _, hf, h => by
  simp [setParts] at h; subst h
  exact ⟨us, rfl, hf, rfl⟩
 | (i, x) :: ps, (i', v) :: qs, xs, us, r, hp, hf, h => by
  obtain ⟨rfl, hv, hps⟩ := hp
  simp only [setParts] at h
  split at h
  case isFalse => cases h
  rename_i hn
  obtain ⟨n1, n2, n3⟩ := hn
  obtain ⟨y1, y2, y3⟩ := hv.strip.storable (strip_storable n1)
  rw [strip_cells_len] at y1
  obtain ⟨f1, f2, f3, f4⟩ := hf
  have hle : i * size + size ≤ us.size := by
   have : us.size = xs.length * size := by simpa using f1
   have h2 : (i + 1) * size ≤ xs.length * size := Nat.mul_le_mul_right _ n3
   rw [Nat.add_mul] at h2; omega
  obtain ⟨r1, e1, e2, e3⟩ := fill_step (place := fun i => some (i * size, size)) (rest := qs) (cells := us) (i := i) rfl (y1.trans n2) hle
  rw [e1]
  have hflat : Flat g w n size (xs.set i x.strip) r1.toList := by
   have hus : us.size = xs.length * size := by simpa using f1
   refine ⟨by simp [e2, hus], fun k z hk => ?_, fun k z j c hk hj => ?_, fun u hu => ?_⟩
   ·by_cases hki : k = i
    ·subst hki
     rw [List.getElem?_set_self n3] at hk
     injection hk with hk; subst hk
     rw [strip_cells_len]; exact n2
    ·rw [List.getElem?_set_ne (Ne.symm hki)] at hk; exact f2 k z hk
   ·have hkl : k < xs.length := by
     have := (List.getElem?_eq_some_iff.1 hk).1; simpa using this
    by_cases hki : k = i
    ·subst hki
     rw [List.getElem?_set_self n3] at hk
     injection hk with hk; subst hk
     have hj' : j < size := by have := (List.getElem?_eq_some_iff.1 hj).1; rw [strip_cells_len] at this; omega
     rw [List.getD_eq_getElem?_getD, Array.getElem?_toList, e3 _ (by rw [hus]; exact idx_lt hkl hj'), if_pos (by omega), show k * size + j - k * size = j by omega, ← Array.getD_eq_getD_getElem?]
     exact y2 j c hj
    ·rw [List.getElem?_set_ne (Ne.symm hki)] at hk
     have hj' : j < size := by have := (List.getElem?_eq_some_iff.1 hj).1; rw [f2 k z hk] at this; exact this
     have hne : ¬ (i * size ≤ k * size + j ∧ k * size + j < i * size + size) := by
      intro hh
      rcases Nat.lt_or_gt_of_ne hki with q | q
      ·have : (k + 1) * size ≤ i * size := Nat.mul_le_mul_right _ q
       rw [Nat.add_mul] at this; omega
      ·have : (i + 1) * size ≤ k * size := Nat.mul_le_mul_right _ q
       rw [Nat.add_mul] at this; omega
     rw [List.getD_eq_getElem?_getD, Array.getElem?_toList, e3 _ (by rw [hus]; exact idx_lt hkl hj'), if_neg hne, ← Array.getElem?_toList, ← List.getD_eq_getElem?_getD]
     exact f3 k z j c hk hj
   ·obtain ⟨k, hk, rfl⟩ := Array.mem_iff_getElem.1 (Array.mem_def.2 hu)
    have := e3 k (by omega)
    rw [Array.getElem?_eq_getElem hk] at this
    split at this
    ·exact y3 _ (Array.mem_of_getElem? this.symm)
    ·exact f4 _ (Array.mem_def.1 (Array.mem_of_getElem? this.symm))
  obtain ⟨r', g1, g2, g3⟩ := setParts_sound ps qs (xs.set i x.strip) r1 r hps hflat h
  exact ⟨r', g1, g2, by simpa using g3⟩
 | [], _ :: _, _, _, _, h, _, _ => h.elim
 | _ :: _, [], _, _, _, h, _, _ => h.elim
theorem zeros_flat {z : Value} {zp : PV} {size : Nat} (hz : V g w n zp z) (hst : zp.storable = true) (hl : zp.cells.length = size) (hs : size ≠ 0) (len : Nat) :
  Flat g w n size (List.replicate len zp) ((Array.range (len * size)).map (z.cells[· % z.cells.size]!)).toList := by
 obtain ⟨y1, y2, y3⟩ := hz.storable hst
 have hsz : z.cells.size = size := y1.trans hl
 have hget : ∀ k, k < len * size → ((Array.range (len * size)).map (z.cells[· % z.cells.size]!))[k]? = z.cells[k % size]? := by
  intro k hk
  have hm : k % size < z.cells.size := by rw [hsz]; exact Nat.mod_lt _ (by omega)
  simp only [Array.getElem?_map]
  rw [Array.getElem?_range, if_pos hk]
  simp only [Option.map_some, hsz]
  rw [Array.getElem?_eq_getElem hm, getElem!_pos z.cells (k % size) hm]
 refine ⟨by simp, fun i x hi => ?_, fun i x j c hi hj => ?_, fun u hu => ?_⟩
 ·rw [List.getElem?_replicate] at hi
  split at hi
  ·injection hi with hi; subst hi; exact hl
  ·cases hi
 ·rw [List.getElem?_replicate] at hi
  split at hi
  ·rename_i hil
   injection hi with hi; subst hi
   have hj' : j < size := by rw [← hl]; exact (List.getElem?_eq_some_iff.1 hj).1
   rw [List.getD_eq_getElem?_getD, Array.getElem?_toList, hget _ (idx_lt hil hj'), Nat.mul_comm, Nat.mul_add_mod, Nat.mod_eq_of_lt hj', ← Array.getD_eq_getD_getElem?]
   exact y2 j c hj
  ·cases hi
 ·obtain ⟨k, hk, rfl⟩ := Array.mem_iff_getElem.1 (Array.mem_def.2 hu)
  have := hget k (by simpa using hk)
  rw [Array.getElem?_eq_getElem hk] at this
  exact y3 _ (Array.mem_of_getElem? this.symm)
theorem new_full (hR : R S w g base bd) {size : Nat} {xs : List PV} {us : Array Value} (hf : Flat g w S.length size xs us.toList) (e : TypeId) :
  Good base bd S g w (.lst xs .full) S false (.slice (some ⟨w.heap.size, 0, none⟩) xs.length xs.length) (w.alloc (.cells us e)) := by
 obtain ⟨h1, h2⟩ := hR.newRow (.cells us e) us.size
 refine ⟨_, ?_, by simpa using h1, h2, Nat.le_refl _⟩
 refine (hf.evo h2).lst (Nat.le_refl _) (fun k hk => ?_) (fun k u hu => ?_) rfl
 ·simp only [G.new, if_true]; simpa using hk
 ·have := alloc_new w (.cells us e)
  simp only [Nat.zero_add, World.cell?, this]
  rw [Array.getElem?_toList] at hu
  simpa using hu
theorem step_buildSlice (hc : CtxTy P ctx) (hR : R S w g base bd) {t : TypeId} {len : Nat} {ps : List (Nat × PV)} {qs : Array (Nat × Value)} {y : PV} (hp : Parts g w S.length ps qs.toList)
  (h : buildSlicePV ctx t len ps = some y) : ∃ v w', (Instr.buildSlice t len qs).run P w = .ok v w' ∧ Good base bd S g w y S false v w' := by
 unfold buildSlicePV at h
 split at h
 ·cases h
 rename_i ti hti
 have ht := hc.ty _ _ hti
 split at h
 case h_2 => cases h
 rename_i e hund
 split at h
 case h_2 => cases h
 rename_i ei hei
 have hte := hc.ty _ _ hei
 split at h
 case isFalse => cases h
 rename_i hn
 obtain ⟨n1, n2, n3, n4⟩ := hn
 cases hs : setParts ei.size (List.replicate len ei.zero) ps with
 | none => simp [hs] at h
 | some r =>
  simp [hs] at h; subst h
  obtain ⟨z, z1, z2, z3⟩ := hte.run_zero w
  have hzf := zeros_flat (absV_sound g w S.length z2) n4 n3 n2 len
  obtain ⟨r', r1, r2, r3⟩ := setParts_sound ps qs.toList _ _ r hp hzf hs
  have hrl : r.length = len := by simpa using r3
  refine ⟨.slice (some ⟨w.heap.size, 0, none⟩) len len, w.alloc (.cells r' e), ?_, ?_⟩
  ·simp only [Instr.buildSlice, Sem.run_bind, ht.run_und, hund, Result.andThen_ok, hte.run_size]
   rw [if_neg (by omega)]
   by_cases h0 : len * ei.size = 0
   ·have hsame : ((Array.range (len * ei.size)).map fun x => (#[] : Array Value)[x % (#[] : Array Value).size]!) = ((Array.range (len * ei.size)).map (z.cells[· % z.cells.size]!)) :=
     Array.ext (by simp) (fun i h1 _ => by simp [h0] at h1)
    simp only [h0, if_true, Sem.run_bind, Sem.run_pure, Result.andThen_ok]
    rw [h0] at hsame r1
    rw [hsame, r1]
    simp [newRow]
   ·simp only [if_neg h0, Sem.run_bind, Sem.run_pure, Result.andThen_ok, z1]
    rw [r1]
    simp [newRow]
  ·have := new_full hR r2 e
   rwa [hrl] at this
theorem step_makeSlice (hc : CtxTy P ctx) (hR : R S w g base bd) {t : TypeId} {l c y : PV} {l' c' : Value} {S' : List SObj} (hl : V g w S.length l l') (hc' : V g w S.length c c')
  (h : makeSlicePV ctx t l c S = some (y, S')) : ∃ v w', (Instr.makeSlice t l' c').run P w = .ok v w' ∧ Good base bd S g w y S' false v w' := by
 unfold makeSlicePV at h
 split at h
 case h_2 => cases h
 rename_i ti k n k' m hti
 have ht := hc.ty _ _ hti
 split at h
 case h_2 => cases h
 rename_i e hund
 split at h
 case h_2 => cases h
 rename_i ei hei
 have hte := hc.ty _ _ hei
 split at h
 case isFalse => cases h
 rename_i hn
 obtain ⟨n1, n2, n3, n4, n5, n6, n7⟩ := hn
 subst n2
 injection h with h
 injection h with h1 h2
 subst h1; subst h2
 rw [hl.inv_int, hc'.inv_int]
 obtain ⟨z, z1, z2, z3⟩ := hte.run_zero w
 obtain ⟨i, zi, i1, i2, i3, _⟩ := hte.info
 have hzf := zeros_flat (absV_sound g w S.length z2) n7 n6 n5 n.toNat
 have hw : IntKind.i64.wrap n = n := IntWalk.i64_in n (by omega)
 refine ⟨.slice (some ⟨w.heap.size, 0, none⟩) n.toNat n.toNat, w.alloc (.cells ((Array.range (n.toNat * ei.size)).map (z.cells[· % z.cells.size]!)) e), ?_, ?_⟩
 ·have htl : ¬ ((decide (n < 0) || decide ((ei.bytes : Int) * n > 2 ^ 48)) || decide (n < 0) || decide (n > n)) = true := by
   simp; omega
  simp only [Instr.makeSlice, Sem.run_bind, ht.run_und, hund, Result.andThen_ok, asInt, asIntOf, Sem.run_pure, typeInfo, run_program, i1, i3, hw]
  rw [if_neg htl]
  simp only [Sem.run_bind, run_askRoom, Result.andThen_ok, hte.run_size]
  by_cases h0 : n.toNat * ei.size = 0
  ·have hsame : ((Array.range (n.toNat * ei.size)).map fun x => (#[] : Array Value)[x % (#[] : Array Value).size]!) = ((Array.range (n.toNat * ei.size)).map (z.cells[· % z.cells.size]!)) :=
    Array.ext (by simp) (fun i h1 _ => by simp [h0] at h1)
   simp only [h0, if_true, Sem.run_bind, Sem.run_pure, Result.andThen_ok]
   rw [h0] at hsame
   rw [hsame]
   simp [newRow]
  ·simp only [if_neg h0, Sem.run_bind, Sem.run_pure, Result.andThen_ok, z1]
   simp [newRow]
 ·have := new_full hR hzf e
  simpa using this
end
end Go.Pam
namespace Go.Pam
open Go.RowKit
section
variable {P : Program} {ctx : Ctx} {S : List SObj} {g : G} {w : World} {n : Nat} {base : Nat} {bd : Nat → Nat}
theorem new_tip (hR : R S w g base bd) {size cap : Nat} {xs : List PV} {us rest : List Value} (hf : Flat g w S.length size xs us) (e : TypeId) {cur : Array Value} (hcur : cur.toList = us ++ rest) (hcap : cur.size = cap * size)
  (hle : xs.length ≤ cap) (fr : Nat × Nat) (hfr : ∀ i, i < cur.size → ¬ (fr.1 ≤ i ∧ i < fr.2)) :
  Good base bd S g w (.lst xs (.tip S.length)) (S ++ [.tip xs.length size]) false (.slice (some ⟨w.heap.size, 0, none⟩) xs.length cap) (w.alloc (.cells cur e fr)) := by
 have hpp := hR.hpp w.heap.size (Nat.le_refl _)
 have hgB := hR.hfix
 have evo : Evo S.length g w (g.new S.length w.heap.size (xs.length * size) xs.length size false) (w.alloc (.cells cur e fr)) := Evo.newBlock _ (Nat.le_refl _) hpp hgB
 have hnew := alloc_new w (.cells cur e fr)
 refine ⟨g.new S.length w.heap.size (xs.length * size) xs.length size false, ?_, ?_, evo, by simp⟩
 ·refine ((hf.evo evo).mono (by simp)).lst hle (fun k hk => ?_) (fun k u hu => ?_) ?_
  ·simp only [G.new, if_true]; rw [hf.1] at hk; omega
  ·simp only [Nat.zero_add, World.cell?, hnew]
   have hkl := (List.getElem?_eq_some_iff.1 hu).1
   have : cur.toList[k]? = some u := by rw [hcur, List.getElem?_append_left hkl]; exact hu
   rw [Array.getElem?_toList] at this
   simpa using this
  ·refine ⟨by simp, by simp [G.new], by simp [G.new], fun _ => ⟨rfl, by simp [G.new], by simp [G.new], cur, e, fr, ?_, by simpa [G.new] using hcap, fun i _ hi => ?_, by simp [G.new]⟩⟩
   ·simpa only [G.new, if_true] using hnew
   ·simp only [G.new, if_true, World.frozen?, hnew]
    have := hfr i hi
    simpa using this
 ·simp only [Bool.false_eq_true, if_false]
  refine hR.newBlock _ _ ⟨by simp [G.new], by simp [G.new], by simp [G.new], ?_⟩
  refine ⟨fun hk => ?_, by simp [G.new]⟩
  have hk' : g.fix w.heap.size := by simpa [G.new] using hk
  have := hR.hfix _ hk'
  omega
theorem new_row (hR : R S w g base bd) {size cap : Nat} {xs : List PV} {us rest : List Value} (hf : Flat g w S.length size xs us) (e : TypeId) {cur : Array Value} (hcur : cur.toList = us ++ rest) (hcap : cur.size = cap * size)
  (hle : xs.length ≤ cap) (hone : ∀ v ∈ rest, v.oneCell' = true) (fr : Nat × Nat) (hfr : ∀ i, i < cur.size → ¬ (fr.1 ≤ i ∧ i < fr.2)) :
  Good base bd S g w (.rsl S.length xs.length) (S ++ [.row xs size false]) false (.slice (some ⟨w.heap.size, 0, none⟩) xs.length cap) (w.alloc (.cells cur e fr)) := by
 have hpp := hR.hpp w.heap.size (Nat.le_refl _)
 have hgB := hR.hfix
 have evo : Evo S.length g w (g.new S.length w.heap.size 0 cap size true) (w.alloc (.cells cur e fr)) := Evo.newBlock _ (Nat.le_refl _) hpp hgB
 have hnew := alloc_new w (.cells cur e fr)
 refine ⟨g.new S.length w.heap.size 0 cap size true, ?_, ?_, evo, by simp⟩
 ·have := V.rsl (g := g.new S.length w.heap.size 0 cap size true) (w := w.alloc (.cells cur e fr)) (n := (S ++ [SObj.row xs size false]).length) S.length xs.length (by simp) (by simp [G.new]) (by simpa [G.new] using hle)
  simpa [G.new] using this
 ·simp only [Bool.false_eq_true, if_false]
  refine hR.newBlock _ _ ⟨by simp [G.new], ?_, by simp [G.new], cur, e, fr, ?_, by simpa [G.new] using hle, by simpa [G.new] using hcap, fun v hv => ?_, hfr, hf.2.1, fun i x j c hi hj => ?_⟩
  ·intro hk
   have hk' : g.fix w.heap.size := by simpa [G.new] using hk
   have := hR.hfix _ hk'
   omega
  ·simpa only [G.new, if_true] using hnew
  ·have : v ∈ us ++ rest := by rw [← hcur]; exact Array.mem_def.1 hv
   rcases List.mem_append.1 this with h | h
   ·exact hf.2.2.2 v h
   ·exact hone v h
  ·have h1 := hf.2.2.1 i x j c hi hj
   have hjl : j < size := by rw [← hf.2.1 i x hi]; exact (List.getElem?_eq_some_iff.1 hj).1
   have hl : i * size + j < us.length := by rw [hf.1]; exact idx_lt (List.getElem?_eq_some_iff.1 hi).1 hjl
   have : cur.getD (i * size + j) undef = us.getD (i * size + j) undef := by
    rw [Array.getD_eq_getD_getElem?, ← Array.getElem?_toList, hcur, List.getElem?_append_left hl, ← List.getD_eq_getElem?_getD]
   rw [this]
   exact (h1.evo evo).mono (by omega)
theorem R.kill (h : R S w g base bd) {id : Nat} {o : SObj} (hs : S[id]? = some o) (ho : g.obj id = true) : R (S.set id .dead) w g base bd := by
 refine ⟨by simpa using h.hbase, h.hbd, h.hfix, h.hpp, fun k q hk => ?_, fun i k q p hi hk hq hp hloc => ?_⟩
 ·rw [List.length_set]
  by_cases hki : k = id
  ·subst hki
   rw [List.getElem?_set_self (R.lt h hs)] at hk
   injection hk with hk; subst hk
   exact ho
  ·rw [List.getElem?_set_ne (Ne.symm hki)] at hk
   exact h.live k q hk
 ·have aux : ∀ (m : Nat) (q : SObj), (S.set id .dead)[m]? = some q → q ≠ .dead → S[m]? = some q := by
   intro m q hm hq
   by_cases hmi : m = id
   ·subst hmi
    rw [List.getElem?_set_self (R.lt h hs)] at hm
    injection hm with hm; exact absurd hm.symm hq
   ·rwa [List.getElem?_set_ne (Ne.symm hmi)] at hm
  exact h.inj i k q p (aux i q hi hq) (aux k p hk hp) hq hp hloc
def G.alias (g : G) (n id : Nat) : G :=
 { g with loc := fun k => if k = n then g.loc id else g.loc k, hw := fun k => if k = n then g.hw id else g.hw k, tsz := fun k => if k = n then g.tsz id else g.tsz k, obj := fun k => if k = n then true else g.obj k }
theorem R.rename (h : R S w g base bd) {id : Nat} {xs : List PV} {sz : Nat} (hs : S[id]? = some (.row xs sz false)) :
  R (S.set id .dead ++ [.row xs sz false]) w (g.alias S.length id) base bd ∧ Evo S.length g w (g.alias S.length id) w := by
 have hlive := h.live id _ hs
 obtain ⟨l1, l2, l3, cur, t, fr, l4, l5, l6, l7, l8, l9, l10⟩ := hlive
 have hb := h.hbase
 have hid := R.lt h hs
 have evo : Evo S.length g w (g.alias S.length id) w := by
  refine ⟨fun _ => Nat.le_refl _, fun _ _ _ => rfl, fun k hk => ?_, fun k hk _ => ?_, fun k hk => ?_, fun k hk => ?_, fun k hk _ => ?_, fun k cap hk _ _ ht => ?_, Nat.le_refl _, rfl, fun _ _ => rfl, fun _ _ => rfl, rfl, rfl, rfl⟩
  ·simp only [G.alias]; rw [if_neg (by omega)]
  ·simp only [G.alias]; rw [if_neg (by omega)]
  ·simp only [G.alias]; rw [if_neg (by omega)]
  ·simp only [G.alias]; rw [if_neg (by omega)]; exact Nat.le_refl _
  ·simp only [G.alias]; rw [if_neg (by omega)]
  ·exact TipC.heap (g := g) (by simp only [G.alias]; rw [if_neg (by omega)]) (by simp only [G.alias]; rw [if_neg (by omega)]) (by simp only [G.alias]; rw [if_neg (by omega)]) rfl rfl ht
 have sl : (S.set id .dead).length = S.length := by simp
 have get : ∀ (k : Nat) (q : SObj), (S.set id .dead ++ [.row xs sz false])[k]? = some q → (k = id ∧ q = .dead) ∨ (k ≠ id ∧ k < S.length ∧ S[k]? = some q) ∨ (k = S.length ∧ q = .row xs sz false) := by
  intro k q hk
  rcases Nat.lt_or_ge k S.length with hi | hi
  ·rw [List.getElem?_append_left (by omega)] at hk
   by_cases hki : k = id
   ·subst hki
    rw [List.getElem?_set_self hid] at hk
    injection hk with hk; exact .inl ⟨rfl, hk.symm⟩
   ·rw [List.getElem?_set_ne (Ne.symm hki)] at hk
    exact .inr (.inl ⟨hki, hi, hk⟩)
  ·rw [List.getElem?_append_right (by omega), sl] at hk
   cases hz : k - S.length with
   | zero => rw [hz] at hk; injection hk with hk; exact .inr (.inr ⟨by omega, hk.symm⟩)
   | succ j => rw [hz] at hk; simp at hk
 refine ⟨⟨by simp; omega, h.hbd, h.hfix, h.hpp, fun k q hk => ?_, fun i k p q hi hk hp hq hloc => ?_⟩, evo⟩
 ·have hlen : (S.set id SObj.dead ++ [SObj.row xs sz false]).length = S.length + 1 := by simp
  rw [hlen]
  rcases get k q hk with ⟨rfl, rfl⟩ | ⟨hne, hlt, hk'⟩ | ⟨rfl, rfl⟩
  ·show (g.alias S.length k).obj k = true
   simp only [G.alias]; rw [if_neg (by omega)]; exact l1
  ·have hl := h.live k q hk'
   refine Live.mono (m := lim base bd S.length k) (by unfold lim; split <;> omega) (hl.evo (evo.mono (lim_le h k)) ?_ ?_ ?_ ?_ (fun _ _ => ⟨rfl, rfl⟩))
   ·simp only [G.alias]; rw [if_neg (by omega)]
   ·simp only [G.alias]; rw [if_neg (by omega)]
   ·simp only [G.alias]; rw [if_neg (by omega)]
   ·simp only [G.alias]; rw [if_neg (by omega)]
  ·refine ⟨by simp [G.alias], by simpa [G.alias] using l2, by simpa [G.alias] using l3, cur, t, fr, by simpa [G.alias] using l4, by simpa [G.alias] using l5, by simpa [G.alias] using l6, l7, l8, l9, fun i x j c hi hj => ?_⟩
   refine (((l10 i x j c hi hj).evo (evo.mono (lim_le h id)))).mono ?_
   unfold lim
   rw [if_neg (show ¬ S.length < base by omega)]
   split
   ·have := h.hbd id (by assumption); omega
   ·omega
 ·have hal : ∀ k, k < S.length → (g.alias S.length id).loc k = g.loc k := fun k hk => by simp only [G.alias]; rw [if_neg (by omega)]
  have hself : (g.alias S.length id).loc S.length = g.loc id := by simp [G.alias]
  rcases get i p hi with ⟨_, rfl⟩ | ⟨hne, hlt, hi'⟩ | ⟨rfl, rfl⟩
  ·exact absurd rfl hp
  ·rcases get k q hk with ⟨_, rfl⟩ | ⟨hne2, hlt2, hk'⟩ | ⟨rfl, rfl⟩
   ·exact absurd rfl hq
   ·rw [hal i hlt, hal k hlt2] at hloc
    exact h.inj i k p q hi' hk' hp hq hloc
   ·rw [hal i hlt, hself] at hloc
    exact absurd (h.inj i id p _ hi' hs hp (by simp) hloc) hne
  ·rcases get k q hk with ⟨_, rfl⟩ | ⟨hne2, hlt2, hk'⟩ | ⟨rfl, rfl⟩
   ·exact absurd rfl hq
   ·rw [hal k hlt2, hself] at hloc
    exact absurd (h.inj id k _ q hs hk' (by simp) hq hloc).symm hne2
   ·rfl
theorem Live.grow {w w' : World} {m id : Nat} {xs ys : List PV} {sz : Nat} {us : List Value} (h : Live w g m id (.row xs sz false)) (hf : Flat g w m sz ys us) (hroom : xs.length + ys.length ≤ g.hw id)
  (hw : w' = w.setCells (g.loc id) (xs.length * sz) us) (evo : Evo m g w g w') : Live w' g m id (.row (xs ++ ys) sz false) := by
 obtain ⟨l1, l2, l3, cur, t, fr, l4, l5, l6, l7, l8, l9, l10⟩ := h
 have hle : (xs.length + ys.length) * sz ≤ g.hw id * sz := Nat.mul_le_mul_right _ hroom
 rw [Nat.add_mul] at hle
 have hul := hf.1
 obtain ⟨cur', s1, s2, s3, s4, s5, s6, s7, s8, s9⟩ := setCells_block (g.loc id) t fr us (xs.length * sz) w cur l4 (by omega)
 rw [← hw] at s1
 refine ⟨l1, l2, by simpa using l3, cur', t, fr, s1, by simpa using hroom, by rw [s2]; exact l6, fun v hv => ?_, fun k hk => l8 k (by omega), fun k x hk => ?_, fun k x q c hk hq => ?_⟩
 ·obtain ⟨k, hk, rfl⟩ := Array.mem_iff_getElem.1 hv
  by_cases hin : xs.length * sz ≤ k ∧ k < xs.length * sz + us.length
  ·have := s4 (k - xs.length * sz) (us[k - xs.length * sz]'(by omega)) (List.getElem?_eq_getElem (by omega))
   rw [show xs.length * sz + (k - xs.length * sz) = k by omega, Array.getElem?_eq_getElem hk] at this
   injection this with this
   rw [this]
   exact hf.2.2.2 _ (List.getElem_mem _)
  ·have := s3 k (by omega)
   rw [Array.getElem?_eq_getElem hk, Array.getElem?_eq_getElem (show k < cur.size by omega)] at this
   injection this with this
   rw [this]
   exact l7 _ (Array.getElem_mem _)
 ·rcases Nat.lt_or_ge k xs.length with hl | hl
  ·rw [List.getElem?_append_left hl] at hk; exact l9 k x hk
  ·rw [List.getElem?_append_right hl] at hk; exact hf.2.1 _ x hk
 ·rw [Array.getD_eq_getD_getElem?]
  rcases Nat.lt_or_ge k xs.length with hl | hl
  ·rw [List.getElem?_append_left hl] at hk
   have hq' : q < sz := by rw [← l9 k x hk]; exact (List.getElem?_eq_some_iff.1 hq).1
   rw [s3 _ (.inl (idx_lt hl hq')), ← Array.getD_eq_getD_getElem?]
   exact (l10 k x q c hk hq).evo evo
  ·rw [List.getElem?_append_right hl] at hk
   have hkl := (List.getElem?_eq_some_iff.1 hk).1
   have hq' : q < sz := by rw [← hf.2.1 _ x hk]; exact (List.getElem?_eq_some_iff.1 hq).1
   have e1 : k * sz + q = xs.length * sz + ((k - xs.length) * sz + q) := by
    rw [Nat.sub_mul]
    have : xs.length * sz ≤ k * sz := Nat.mul_le_mul_right _ hl
    omega
   have hin : (k - xs.length) * sz + q < us.length := by rw [hul]; exact idx_lt hkl hq'
   rw [e1, s4 _ _ (List.getElem?_eq_getElem hin)]
   have := hf.2.2.1 _ x q c hk hq
   rw [List.getD_eq_getElem?_getD, List.getElem?_eq_getElem hin] at this
   exact this.evo evo
theorem Live.flat {w : World} {m id : Nat} {xs : List PV} {sz : Nat} {fz : Bool} (h : Live w g m id (.row xs sz fz)) : ∃ us, Flat g w m sz xs us ∧ ∀ (k : Nat) (u : Value), us[k]? = some u → w.cell? ⟨g.loc id, k, none⟩ = some u := by
 obtain ⟨l1, l2, l3, cur, t, fr, l4, l5, l6, l7, l8, l9, l10⟩ := h
 have hle : xs.length * sz ≤ g.hw id * sz := Nat.mul_le_mul_right _ l5
 refine ⟨cur.toList.take (xs.length * sz), ⟨by simp; omega, l9, fun i x j c hi hj => ?_, fun u hu => ?_⟩, fun k u hk => ?_⟩
 ·have hj' : j < sz := by rw [← l9 i x hi]; exact (List.getElem?_eq_some_iff.1 hj).1
  have hil := (List.getElem?_eq_some_iff.1 hi).1
  rw [List.getD_eq_getElem?_getD, List.getElem?_take, if_pos (idx_lt hil hj'), Array.getElem?_toList, ← Array.getD_eq_getD_getElem?]
  exact l10 i x j c hi hj
 ·exact l7 u (Array.mem_def.2 (List.mem_of_mem_take hu))
 ·rw [List.getElem?_take] at hk
  split at hk
  ·rw [Array.getElem?_toList] at hk
   simp [World.cell?, l4, hk]
  ·cases hk
theorem sized_flat {size sz : Nat} {xs : List PV} {us : List Value} (hf : Flat g w n sz xs us) (hs : sizedAll size xs = true) : Flat g w n size xs us ∧ (xs ≠ [] → sz = size) := by
 cases xs with
 | nil =>
  have h0 : us = [] := by have := hf.1; simp at this; exact this
  subst h0
  exact ⟨Flat.nil _ _ _ _, fun h => absurd rfl h⟩
 | cons x xs =>
  have h1 := hf.2.1 0 x rfl
  have h2 := sizedAll_get (i := 0) hs rfl
  have : sz = size := by omega
  subst this
  exact ⟨hf, fun _ => rfl⟩
theorem growBy_le (m : Nat) (hm : 257 ≤ m) : ∀ (r c : Nat), c ≤ 2 * m → Builtin.growBy m r c ≤ 2 * m
 | 0, c, h => h
 | r + 1, c, h => by
  simp only [Builtin.growBy]
  split
  ·exact h
  ·exact growBy_le m hm r _ (by omega)
theorem nextslicecap_le {m c : Nat} (h : c < m) : Builtin.nextslicecap m c ≤ 2 * m := by
 unfold Builtin.nextslicecap
 split
 ·omega
 ·split
  ·omega
  ·exact growBy_le m (by omega) 4 c (by omega)
theorem listOf_cells {size : Nat} {x : PV} {ys : List PV} {x' : Value} (hx : V g w n x x') (hl : listOf x = some ys) (hsz : sizedAll size ys = true) (hne : ys ≠ []) :
  ∃ us : List Value, (Builtin.lenOf x').run P w = .ok ys.length w ∧ (∀ w' : World, w'.heap = w.heap → (Builtin.firstCells size ys.length x').run P w' = .ok us.toArray w') ∧ Flat g w n size ys us := by
 unfold listOf at hl
 split at hl
 ·injection hl with hl; exact absurd hl.symm hne
 ·injection hl with hl; exact absurd hl.symm hne
 ·rename_i xs tag
  injection hl with hl; subst hl
  obtain ⟨b, o, cap, sz, us, rfl, h0, hf, hpp, hcell, _⟩ := hx.flat (.inl hne)
  obtain ⟨hf', hs⟩ := sized_flat hf hsz
  refine ⟨us, rfl, fun w' hw' => ?_, hf'⟩
  simp only [Builtin.firstCells]
  have hl : us.length = xs.length * size := hf'.1
  rw [← hl]
  exact run_loadCells_list w' _ us (fun j v hj => by rw [add_mk]; have := hcell j v hj; simpa [World.cell?, hw'] using this)
 ·rename_i s
  injection hl with hl; subst hl
  obtain ⟨bs, rfl, hb⟩ := hx.inv_str
  have hlen : s.length = bs.size := by rw [← hb]; simp
  have h1 : size = 1 := by
   cases s with
   | nil => simp at hne
   | cons a s => have := sizedAll_get (i := 0) hsz rfl; simpa [PV.cells] using this.symm
  subst h1
  refine ⟨s.map fun b => .int .u8 b.toNat, ?_, ?_, ?_⟩
  ·simp [Builtin.lenOf, hlen]
  ·intro w' _
   simp only [Builtin.firstCells, List.length_map, hlen]
   show Result.ok _ w' = _
   congr 1
   apply Array.ext'
   subst hb
   simp [ByteArray.extract_zero_size]
  ·refine ⟨by simp, fun i x hi => ?_, fun i x j c hi hj => ?_, fun u hu => ?_⟩
   ·rw [List.getElem?_map] at hi
    cases hs : s[i]? with
    | none => simp [hs] at hi
    | some b => simp [hs] at hi; subst hi; rfl
   ·rw [List.getElem?_map] at hi
    cases hs : s[i]? with
    | none => simp [hs] at hi
    | some b =>
     simp [hs] at hi; subst hi
     cases j with
     | succ j => simp [PV.cells] at hj
     | zero =>
      simp [PV.cells] at hj; subst hj
      simp [List.getElem?_map, hs]
      exact .int _ _
   ·simp only [List.mem_map] at hu
    obtain ⟨b, _, rfl⟩ := hu
    rfl
 ·cases hl
theorem zeros_one {z : Array Value} (h : ∀ v ∈ z, v.oneCell' = true) {n : Nat} {v : Value} (hv : v ∈ Builtin.zeroCells z n) : v.oneCell' = true := by
 unfold Builtin.zeroCells at hv
 rw [Array.mem_map] at hv
 obtain ⟨i, hi, rfl⟩ := hv
 have hi' : i < n * z.size := by simpa using hi
 have hpos : 0 < z.size := by
  rcases Nat.eq_zero_or_pos z.size with h0 | h0
  ·rw [h0] at hi'; simp at hi'
  ·exact h0
 rw [getElem!_pos z (i % z.size) (Nat.mod_lt _ hpos)]
 exact h _ (Array.getElem_mem _)
theorem append_grow (hc : CtxTy P ctx) {ts : Array TypeId} {t u e ty : TypeId} {ti ui ei : TyI} (ht0 : ts[0]? = some t) (ht1 : ts[1]? = some u) (hti : ctx.ty t = some ti) (hui : ctx.ty u = some ui) (hei : ctx.ty e = some ei)
  (hund : ti.und = .slice e) (hnum : ∀ k, ui.und ≠ .int k) {args : Array Value} {x' : Value} {A : Option Addr} {len cap m : Nat} {old new : List Value} (h0 : args[0]? = some (.slice A len cap)) (h1 : args[1]? = some x')
  (hlen : (Builtin.lenOf x').run P w = .ok m w) (hnew : ∀ w' : World, w'.heap = w.heap → (Builtin.firstCells ei.size m x').run P w' = .ok new.toArray w')
  (hold : ∀ w' : World, w'.heap = w.heap → (Builtin.firstCells ei.size len (.slice A len cap)).run P w' = .ok old.toArray w')
  (hroom : cap < len + m) (hb : ei.bytes ≠ 0) (hbytes : (len + m) * ei.bytes ≤ 2 ^ 47) (hzs : ei.zero.cells.length = ei.size) :
  ∃ (newCap : Nat) (w0 : World) (cur : Array Value) (rest : List Value), len + m ≤ newCap ∧ w0.heap = w.heap ∧ w0.os = w.os ∧ w0.tape = w.tape ∧ w0.output = w.output ∧ cur.toList = (old ++ new) ++ rest ∧ rest.length = (newCap - (len + m)) * ei.size ∧ (ei.zero.storable = true → ∀ v ∈ rest, v.oneCell' = true) ∧
   (Builtin.append_ ts ty args).run P w = .ok (.slice (some ⟨w0.heap.size, 0, none⟩) (len + m) newCap) (w0.alloc (.cells cur e)) := by
 have ht := hc.ty _ _ hti
 have hu := hc.ty _ _ hui
 have hte := hc.ty _ _ hei
 obtain ⟨i, zi, i1, i2, i3, i4, i5, i6, _⟩ := hte.info
 have hle : len + m ≤ 2 ^ 47 := by
  have : (len + m) * 1 ≤ (len + m) * ei.bytes := Nat.mul_le_mul_left _ (by omega)
  omega
 have hns : ¬ Builtin.nextslicecap (len + m) cap * i.bytes > 2 ^ 48 := by
  rw [i3]
  have := nextslicecap_le hroom
  have h2 : Builtin.nextslicecap (len + m) cap * ei.bytes ≤ 2 * (len + m) * ei.bytes := Nat.mul_le_mul_right _ this
  rw [Nat.mul_assoc] at h2
  omega
 have hq : (Question.appendCap (len + m) cap e).forced = false := rfl
 refine ⟨(Question.appendCap (len + m) cap e).cut (w.tape w.drawn (.appendCap (len + m) cap e)), { w with drawn := w.drawn + 1 },
  old.toArray ++ new.toArray ++ Builtin.zeroCells zi.cells ((Question.appendCap (len + m) cap e).cut (w.tape w.drawn (.appendCap (len + m) cap e)) - (len + m)), (Builtin.zeroCells zi.cells ((Question.appendCap (len + m) cap e).cut (w.tape w.drawn (.appendCap (len + m) cap e)) - (len + m))).toList,
  by simp [Question.cut], rfl, rfl, rfl, rfl, by simp, by simp [Builtin.zeroCells, i6, hzs], fun hst v hv => ?_, ?_⟩
 ·exact zeros_one ((absV_sound ⟨fun _ => 0, fun _ => 0, fun _ => 0, fun _ => 0, fun _ => true, fun _ => False⟩ w 0 i5).storable hst).2.2 (Array.mem_def.2 hv)
 simp only [Builtin.append_, ht0, h0, h1, Sem.run_bind, ht.run_und, hund, Result.andThen_ok, hte.run_size, ht1, hu.run_und, Sem.run_pure, Bool.false_eq_true, if_false, hlen]
 rw [if_neg (by omega)]
 have hti' : (typeInfo e).run P w = .ok i w := by simp [typeInfo, i1]
 have hti'' : ∀ w' : World, (typeInfo e).run P w' = .ok i w' := fun w' => by simp [typeInfo, i1]
 have hzv : ∀ w' : World, (zeroValue e).run P w' = .ok zi w' := fun w' => by simp [zeroValue, typeInfo, i1, i4]
 rw [Sem.run_bind, hti', Result.andThen_ok, if_neg (by rw [i3]; simp; omega)]
 rw [Sem.run_bind, hti', Result.andThen_ok, if_neg hns]
 rw [Sem.run_bind, run_choose, hq, if_neg (by simp), Result.andThen_ok]
 simp only [Sem.run_bind, hti'', Result.andThen_ok, run_askRoom, Bool.not_false, if_true]
 have hold' := hold { w with drawn := w.drawn + 1 } rfl
 have hnew' := hnew { w with drawn := w.drawn + 1 } rfl
 rw [hold', Result.andThen_ok, hnew', Result.andThen_ok]
 simp only [hzv, Result.andThen_ok, newRow, Sem.run_bind, run_newObj, Sem.run_pure]
 rfl
theorem append_room (hc : CtxTy P ctx) {ts : Array TypeId} {t u e ty : TypeId} {ti ui ei : TyI} (ht0 : ts[0]? = some t) (ht1 : ts[1]? = some u) (hti : ctx.ty t = some ti) (hui : ctx.ty u = some ui) (hei : ctx.ty e = some ei)
  (hund : ti.und = .slice e) (hnum : ∀ k, ui.und ≠ .int k) {args : Array Value} {x' : Value} {b len cap m : Nat} {new : List Value} (h0 : args[0]? = some (.slice (some ⟨b, 0, none⟩) len cap)) (h1 : args[1]? = some x')
  (hlen : (Builtin.lenOf x').run P w = .ok m w) (hnew : (Builtin.firstCells ei.size m x').run P w = .ok new.toArray w) (hroom : len + m ≤ cap)
  (hcell : ∀ j, j < new.length → (w.cell? ⟨b, len * ei.size + j, none⟩).isSome = true) (hfr : ∀ j, j < new.length → w.frozen? ⟨b, len * ei.size + j, none⟩ = false) (hone : ∀ v ∈ new, v.oneCell' = true) :
  (Builtin.append_ ts ty args).run P w = .ok (.slice (some ⟨b, 0, none⟩) (len + m) cap) (w.setCells b (len * ei.size) new) := by
 have ht := hc.ty _ _ hti
 have hu := hc.ty _ _ hui
 have hte := hc.ty _ _ hei
 have hst := run_storeCells_cells (P := P) b (len * ei.size) new 0 w (by simpa using hcell) (by simpa using hfr) hone
 simp only [Builtin.append_, ht0, h0, h1, Sem.run_bind, ht.run_und, hund, Result.andThen_ok, hte.run_size, ht1, hu.run_und, Sem.run_pure, Bool.false_eq_true, if_false, hlen]
 rw [if_pos hroom]
 simp only [Sem.run_bind, Bool.not_false, if_true, hnew, Result.andThen_ok, add_mk, Nat.zero_add]
 simp only [Nat.add_zero] at hst
 rw [hst]
 rfl
theorem step_append (hc : CtxTy P ctx) (hR : R S w g base bd) {ts : Array TypeId} {ty : TypeId} {s x y : PV} {args : Array Value} {s' x' : Value} {S' : List SObj} (h0 : args[0]? = some s') (h1 : args[1]? = some x')
  (hs : V g w S.length s s') (hx : V g w S.length x x') (h : appendPV ctx ts s x S = some (y, S')) : ∃ v w', (Builtin.append_ ts ty args).run P w = .ok v w' ∧ Good base bd S g w y S' false v w' := by
 unfold appendPV at h
 split at h
 case h_2 => cases h
 rename_i t u ht0 ht1
 split at h
 case h_2 => cases h
 rename_i ti ui ys hti hui hys
 split at h
 ·cases h
 case h_3 => cases h
 rename_i e hund hnum'
 have hnum : ∀ k, ui.und ≠ .int k := fun k hk => by simp_all
 split at h
 ·cases h
 rename_i ei hei
 split at h
 ·rename_i hemp
  have hy0 : ys = [] := by simpa using hemp
  subst hy0
  split at h
  case isFalse => cases h
  rename_i hsl
  injection h with h
  injection h with hh1 hh2
  subst hh1; subst hh2
  have ht := hc.ty _ _ hti
  have hu := hc.ty _ _ hui
  have hte := hc.ty _ _ hei
  have hlen0 : (Builtin.lenOf x').run P w = .ok 0 w ∧ (Builtin.firstCells ei.size 0 x').run P w = .ok #[] w := by
   unfold listOf at hys
   split at hys
   ·rw [hx.inv_nils]; exact ⟨rfl, rfl⟩
   ·obtain ⟨a, rfl⟩ := hx.inv_emp
    refine ⟨rfl, ?_⟩
    simp [Builtin.firstCells, loadCells, loadCellsFrom]
   ·rename_i zs tag
    injection hys with hys; subst hys
    rcases hx.inv_lst with ⟨_, _, a, rfl⟩ | ⟨b, o, cap, sz, u', rfl, _⟩
    ·refine ⟨rfl, ?_⟩
     simp [Builtin.firstCells, loadCells, loadCellsFrom]
    refine ⟨rfl, ?_⟩
    simp [Builtin.firstCells, loadCells, loadCellsFrom]
   ·rename_i str
    injection hys with hys
    obtain ⟨bs, rfl, hb⟩ := hx.inv_str
    have : str = [] := by simpa using hys
    subst this
    have hsz : bs.size = 0 := by have := congrArg List.length hb; simpa using this
    refine ⟨by simp [Builtin.lenOf, hsz], ?_⟩
    simp [Builtin.firstCells]
   ·cases hys
  obtain ⟨A, len, cap, rfl, hle, hA⟩ : ∃ A len cap, s' = .slice A len cap ∧ len ≤ cap ∧ (A = none ∨ ∃ a, A = some a) := by
   unfold isSlice at hsl
   split at hsl
   ·exact ⟨_, _, _, hs.inv_nils, Nat.le_refl _, .inl rfl⟩
   ·rcases hs.inv_lst with ⟨_, _, a, rfl⟩ | ⟨b, o, cap, sz, u', rfl, h1, _⟩
    ·exact ⟨_, _, _, rfl, Nat.le_refl _, .inr ⟨_, rfl⟩⟩
    exact ⟨_, _, _, rfl, h1, .inr ⟨_, rfl⟩⟩
   ·obtain ⟨cap, rfl, h1, _⟩ := hs.inv_hsl
    exact ⟨_, _, _, rfl, h1, .inr ⟨_, rfl⟩⟩
   ·obtain ⟨a, rfl⟩ := hs.inv_emp
    exact ⟨_, _, _, rfl, Nat.le_refl _, .inr ⟨_, rfl⟩⟩
   ·obtain ⟨rfl, h1, _⟩ := hs.inv_rsl
    exact ⟨_, _, _, rfl, h1, .inr ⟨_, rfl⟩⟩
   ·cases hsl
  refine ⟨.slice A len cap, w, ?_, Good.same hR hs⟩
  simp only [Builtin.append_, ht0, h0, h1, Sem.run_bind, ht.run_und, hund, Result.andThen_ok, hte.run_size, ht1, hu.run_und, Sem.run_pure, Bool.false_eq_true, if_false, hlen0.1]
  rw [if_pos (by omega)]
  simp only [Sem.run_bind, Bool.not_false, if_true, hlen0.2, Result.andThen_ok]
  rcases hA with rfl | ⟨a, rfl⟩
  ·rfl
  ·simp [storeCells]
 rename_i hyne
 have hyne' : ys ≠ [] := by simpa using hyne
 split at h
 ·cases h
 rename_i hn
 simp only [not_or, Bool.not_eq_false, Decidable.not_not] at hn
 obtain ⟨n1, n2, n3, n4, n5⟩ := hn
 have hyl : 0 < ys.length := by cases ys with | nil => exact absurd rfl hyne' | cons => simp
 obtain ⟨new, l1, l2, l3⟩ := listOf_cells (P := P) hx hys n1 hyne'
 -- a new block with what was there and what is appended
 have grow : ∀ (xs : List PV) (A : Option Addr) (cap : Nat) (old : List Value), s' = .slice A xs.length cap → cap < xs.length + ys.length → (xs.length + ys.length) * ei.bytes ≤ 2 ^ 47 →
   Flat g w S.length ei.size xs old → (∀ w' : World, w'.heap = w.heap → (Builtin.firstCells ei.size xs.length s').run P w' = .ok old.toArray w') →
   ∃ v w', (Builtin.append_ ts ty args).run P w = .ok v w' ∧ Good base bd S g w (.lst (xs ++ ys) (.tip S.length)) (S ++ [.tip (xs.length + ys.length) ei.size]) false v w' := by
  intro xs A cap old hs' hcap hby hfo hold
  subst hs'
  obtain ⟨newCap, w0, cur, rest, q1, q2, q3, q4, q5, q6, q7, q9, q8⟩ := append_grow (ty := ty) hc ht0 ht1 hti hui hei hund hnum h0 h1 l1 l2 hold hcap n3 hby n5
  have hR0 := hR.drawn q2 q3 q4 q5
  have e0 : Evo S.length g w g w0 := Evo.drawn q2 q3 q4 q5
  have hf := ((hfo.append l3).evo e0)
  have hcs : cur.size = newCap * ei.size := by
   have : cur.toList.length = newCap * ei.size := by
    rw [q6, List.length_append, hf.1, q7, List.length_append, ← Nat.add_mul]; congr 1; omega
   simpa using this
  obtain ⟨g', k1, k2, k3, k4⟩ := new_tip hR0 hf e q6 hcs (by simpa using q1) (0, 0) (fun i _ h => by omega)
  have el : (xs ++ ys).length = xs.length + ys.length := List.length_append
  rw [el] at k1 k2 k4
  exact ⟨_, _, q8, g', k1, k2, e0.trans k3, k4⟩
 split at h
 ·-- nil
  split at h
  case isFalse => cases h
  rename_i hb
  injection h with h
  injection h with hh1 hh2
  subst hh1; subst hh2
  have := grow [] none 0 [] hs.inv_nils (by simpa using hyl) (by simpa using hb) (Flat.nil _ _ _ _) (fun w' _ => by rw [hs.inv_nils]; rfl)
  simpa using this
 ·-- as long as it may be
  rename_i xs
  split at h
  case isFalse => cases h
  rename_i hb
  obtain ⟨hb1, hb2⟩ := hb
  injection h with h
  injection h with hh1 hh2
  subst hh1; subst hh2
  obtain ⟨b, o, cap, sz, us, hv, c0, cf, cp, cc, ct⟩ := hs.flat (.inr (by simp))
  obtain ⟨cf', _⟩ := sized_flat cf hb2
  have hcap : xs.length = cap := ct
  refine grow xs (some ⟨b, o, none⟩) cap us hv (by omega) hb1 cf' (fun w' hw' => ?_)
  rw [hv]
  simp only [Builtin.firstCells]
  rw [← cf'.1]
  exact run_loadCells_list w' _ us (fun j v hj => by rw [add_mk]; have := cc j v hj; simpa [World.cell?, hw'] using this)
 ·-- a row that may be written to
  rename_i id len
  split at h
  case h_2 => cases h
  rename_i xs sz hid
  split at h
  case isFalse => cases h
  rename_i hb
  obtain ⟨rfl, rfl, hb3⟩ := hb
  injection h with h
  injection h with hh1 hh2
  subst hh1; subst hh2
  obtain ⟨rfl, c0, c1, c2⟩ := hs.inv_rsl
  have hlive := hR.live id _ hid
  obtain ⟨us, cf, cc⟩ := hlive.flat
  by_cases hroom : xs.length + ys.length ≤ g.hw id
  ·obtain ⟨r1, r2⟩ := hR.rename hid
   have hal : (g.alias S.length id).loc S.length = g.loc id := by simp [G.alias]
   have hsl : (S.set id .dead ++ [SObj.row xs ei.size false])[S.length]? = some (.row xs ei.size false) := by
    rw [List.getElem?_append_right (by simp)]; simp
   have hl2 := r1.live S.length _ hsl
   have hlimL : lim base bd (S.set id .dead ++ [SObj.row xs ei.size false]).length S.length = S.length + 1 := by
    have := hR.hbase
    unfold lim; rw [if_neg (by omega)]; simp
   have hl3 := hl2
   obtain ⟨k1, k2, k3, cur, e', fr, k4, k5, k6, k7, k8, k9, k10⟩ := hl2
   rw [hal] at k2 k3 k4
   have hhw : (g.alias S.length id).hw S.length = g.hw id := by simp [G.alias]
   rw [hhw] at k6
   have hle : (xs.length + ys.length) * ei.size ≤ g.hw id * ei.size := Nat.mul_le_mul_right _ hroom
   rw [Nat.add_mul] at hle
   have hnl : new.length = ys.length * ei.size := l3.1
   have hrun := append_room (P := P) (ty := ty) hc ht0 ht1 hti hui hei hund hnum h0 h1 l1 (l2 w rfl) hroom
    (fun j hj => by simp [World.cell?, k4]; omega) (fun j hj => by have := k8 (xs.length * ei.size + j) (by omega); simp only [World.frozen?, k4]; simpa using this) l3.2.2.2
   have hw2 := R.write r1 hsl (by simp) (off := xs.length * ei.size) (vs := new) (o' := .row (xs ++ ys) ei.size false) (by rw [hal]; exact k4) (by rw [hal]; exact k2) (by rw [hal]; simpa using k3) (by omega) (fun evo => by
    refine Live.grow hl3 ?_ (by rw [hhw]; exact hroom) rfl evo
    rw [hlimL]
    exact (l3.evo r2).mono (by omega)) S.length
   rw [hal] at hw2
   have hset : (S.set id .dead ++ [SObj.row xs ei.size false]).set S.length (.row (xs ++ ys) ei.size false) = S.set id .dead ++ [SObj.row (xs ++ ys) ei.size false] := by
    rw [List.set_append_right _ _ (by simp)]; simp
   rw [hset] at hw2
   refine ⟨_, _, hrun, _, ?_, by simpa using hw2.1, r2.trans hw2.2, by simp⟩
   have := V.rsl (g := g.alias S.length id) (w := w.setCells (g.loc id) (xs.length * ei.size) new) (n := (S.set id .dead ++ [SObj.row (xs ++ ys) ei.size false]).length) S.length (xs.length + ys.length) (by simp) (by simp [G.alias]) (by rw [hhw]; exact hroom)
   rw [hal, hhw] at this
   exact this
  ·obtain ⟨newCap, w0, cur, rest, q1, q2, q3, q4, q5, q6, q7, q9, q8⟩ := append_grow (ty := ty) (old := us) hc ht0 ht1 hti hui hei hund hnum h0 h1 l1 l2 (fun w' hw' => by
    simp only [Builtin.firstCells]
    rw [← cf.1]
    exact run_loadCells_list w' _ us (fun j v hj => by rw [add_mk, Nat.zero_add]; have := cc j v hj; simpa [World.cell?, hw'] using this)) (by omega) n3 hb3 n5
   have hR0 := (hR.drawn q2 q3 q4 q5).kill hid c2
   have e0 : Evo S.length g w g w0 := Evo.drawn q2 q3 q4 q5
   have hf := (((cf.mono (lim_le hR id)).append l3).evo e0)
   have hcs : cur.size = newCap * ei.size := by
    have : cur.toList.length = newCap * ei.size := by
     rw [q6, List.length_append, hf.1, q7, List.length_append, ← Nat.add_mul]; congr 1; omega
    simpa using this
   have hf' : Flat g w0 (S.set id .dead).length ei.size (xs ++ ys) (us ++ new) := by rw [List.length_set]; exact hf
   obtain ⟨g', k1, k2, k3, k4⟩ := new_row hR0 hf' e q6 hcs (by simpa using q1) (q9 n4) (0, 0) (fun i _ h => by omega)
   have el : (xs ++ ys).length = xs.length + ys.length := List.length_append
   rw [List.length_set, el] at k1
   rw [List.length_set] at k3 k4
   exact ⟨_, _, q8, g', by simpa using k1, k2, e0.trans k3, by simp⟩
 ·-- at its end
  rename_i xs id
  split at h
  case h_2 => cases h
  rename_i hw sz hid
  split at h
  case isFalse => cases h
  rename_i hb
  obtain ⟨rfl, rfl, hb3⟩ := hb
  injection h with h
  injection h with hh1 hh2
  subst hh1; subst hh2
  obtain ⟨b, o, cap, sz', us, hv, c0, cf, cp, cc, ct⟩ := hs.flat (.inr (by simp))
  obtain ⟨l1', l2', l3', l4', l5'⟩ := hR.live id _ hid
  obtain ⟨t1, t2, t3, t4⟩ := ct
  obtain ⟨rfl, rfl, hsz', tc⟩ := t4 l2'
  have hsz : sz' = ei.size := hsz'.trans l3'
  subst hsz
  by_cases hroom : xs.length + ys.length ≤ cap
  ·-- there is room
   have hnl : new.length = (xs.length + ys.length - xs.length) * ei.size := by rw [l3.1]; congr 1; omega
   obtain ⟨r1, r2, r3⟩ := hR.growIn hid tc (m := xs.length + ys.length) (by omega) (vs := new) hnl hroom
   obtain ⟨cur, e', fr, d1, d2, d3, d4⟩ := tc
   rw [l2', l3'] at d3 d4
   rw [l3'] at d2
   have hle : (xs.length + ys.length) * ei.size ≤ cap * ei.size := Nat.mul_le_mul_right _ hroom
   rw [Nat.add_mul] at hle
   have hnl' : new.length = ys.length * ei.size := l3.1
   have hrun := append_room (P := P) (ty := ty) hc ht0 ht1 hti hui hei hund hnum (h0.trans (by rw [hv])) h1 l1 (l2 w rfl) hroom
    (fun j hj => by simp [World.cell?, d1]; omega) (fun j hj => d3 _ (by omega) (by omega)) l3.2.2.2
   refine ⟨_, _, hrun, _, ?_, by simpa using r1, r2, by simp⟩
   have hlen : (S.set id (SObj.tip (xs.length + ys.length) ei.size)).length = S.length := by simp
   rw [hlen]
   have hff := ((cf.append l3).evo r2)
   have := hff.lst (b := g.loc id) (o := 0) (cap := cap) (tag := .tip id) (by simpa using hroom) (fun k hk => ?_) (fun k u hu => ?_) ?_
   ·simpa using this
   ·simp only [G.grow, if_true, Nat.zero_add]
    rw [hff.1, List.length_append] at hk
    exact hk
   ·rw [Nat.zero_add]
    have hkl := (List.getElem?_eq_some_iff.1 hu).1
    rcases Nat.lt_or_ge k us.length with q | q
    ·rw [List.getElem?_append_left q] at hu
     have := cc k u hu
     rw [Nat.zero_add] at this
     rw [World.cell?_setCells_out _ _ _ _ _ (fun _ _ => .inl (by rw [cf.1] at q; exact q))]
     exact this
    ·rw [List.getElem?_append_right q] at hu
     have hj := (List.getElem?_eq_some_iff.1 hu).1
     have := World.cell?_setCells_in (g.loc id) new (xs.length * ei.size) w (fun j hj => by simp [World.cell?, d1]; omega) (k - us.length) hj
     have e1 : xs.length * ei.size + (k - us.length) = k := by have := cf.1; omega
     rw [e1] at this
     rw [this]
     rw [List.getElem?_eq_getElem hj] at hu
     exact hu
   ·refine ⟨t1, by simpa [G.grow] using t2, by simp [G.grow], fun _ => ⟨rfl, by simp [G.grow], by simpa [G.grow] using hsz', r3⟩⟩
  ·-- there is none
   obtain ⟨newCap, w0, cur, rest, q1, q2, q3, q4, q5, q6, q7, q9, q8⟩ := append_grow (ty := ty) (old := us) hc ht0 ht1 hti hui hei hund hnum (h0.trans (by rw [hv])) h1 l1 l2 (fun w' hw' => by
    simp only [Builtin.firstCells]
    rw [← cf.1]
    exact run_loadCells_list w' _ us (fun j v hj => by rw [add_mk]; have := cc j v hj; simpa [World.cell?, hw'] using this)) (by omega) n3 hb3 n5
   have hR0 := hR.drawn q2 q3 q4 q5
   have e0 : Evo S.length g w g w0 := Evo.drawn q2 q3 q4 q5
   have hf := ((cf.append l3).evo e0)
   have hcs : cur.size = newCap * ei.size := by
    have : cur.toList.length = newCap * ei.size := by
     rw [q6, List.length_append, hf.1, q7, List.length_append, ← Nat.add_mul]; congr 1; omega
    simpa using this
   obtain ⟨r1, r2, r3⟩ := hR0.growOut hid (m := xs.length + ys.length) (by omega) e hcs
   refine ⟨_, _, q8, _, ?_, by simpa using r1, e0.trans r2, by simp⟩
   have hlen : (S.set id (SObj.tip (xs.length + ys.length) ei.size)).length = S.length := by simp
   rw [hlen]
   have hff := hf.evo r2
   have hnew := alloc_new w0 (.cells cur e)
   have := hff.lst (b := w0.heap.size) (o := 0) (cap := newCap) (tag := .tip id) (by simpa using q1) (fun k hk => ?_) (fun k u hu => ?_) ?_
   ·simpa using this
   ·simp only [G.grow, if_true, Nat.zero_add]
    rw [hff.1, List.length_append] at hk
    exact hk
   ·simp only [Nat.zero_add, World.cell?, hnew]
    have hkl := (List.getElem?_eq_some_iff.1 hu).1
    have : cur.toList[k]? = some u := by rw [q6, List.getElem?_append_left hkl]; exact hu
    rw [Array.getElem?_toList] at this
    simpa using this
   ·refine ⟨t1, by simpa [G.grow] using t2, by simp [G.grow], fun _ => ⟨rfl, by simp [G.grow], by simpa [G.grow] using hsz', r3⟩⟩
 ·cases h
end
end Go.Pam
namespace Go.Pam
open Go.RowKit
section
variable {P : Program} {ctx : Ctx} {S : List SObj} {g : G} {w : World} {n : Nat} {base : Nat} {bd : Nat → Nat}
theorem bytesOfPV_sound (f : Value → ByteArray → Sem (ForInStep ByteArray)) (hf : ∀ n r, f (.int .u8 n) r = pure (ForInStep.yield (r.push (UInt8.ofNat n.toNat)))) :
  ∀ (xs : List PV) (us : List Value) (b : List UInt8) (s : ByteArray), xs.length = us.length → (∀ (i : Nat) (c : PV), xs[i]? = some c → V g w n c (us.getD i undef)) → convPV.bytesOfPV xs = some b →
  (forIn us s f : Sem ByteArray).run P w = .ok ⟨(s.data.toList ++ b).toArray⟩ w
 | [], [], b, s, _, _, h => by
  simp [convPV.bytesOfPV] at h; subst h
  simp
 | [], _ :: _, _, _, h, _, _ => by simp at h
 | _ :: _, [], _, _, h, _, _ => by simp at h
 | x :: xs, u :: us, b, s, hl, hV, h => by
  have hx := hV 0 x rfl
  simp at hx
  unfold convPV.bytesOfPV at h
  split at h
  ·rename_i he; cases he
  ·rename_i k r he
   injection he with he1 he2
   subst he1; subst he2
   rw [hx.inv_int]
   cases hb : convPV.bytesOfPV xs with
   | none => simp [hb] at h
   | some b' =>
    simp [hb] at h; subst h
    have := bytesOfPV_sound f hf xs us b' (s.push (UInt8.ofNat k.toNat)) (by simpa using hl) (fun i c hi => by have := hV (i + 1) c (by simpa using hi); simpa using this) hb
    simp only [List.forIn_cons, hf, Sem.run_bind, Sem.run_pure, Result.andThen_ok, this]
    congr 2
    simp
  ·cases h
theorem step_conv (hc : CtxTy P ctx) (hR : R S w g base bd) {src dst : TypeId} {x y : PV} {x' : Value} {S' : List SObj} (hx : V g w S.length x x') (h : convPV ctx src dst x S = some (y, S')) :
  ∃ v w', (convert src dst x').run P w = .ok v w' ∧ Good base bd S g w y S' false v w' := by
 unfold convPV at h
 split at h
 case h_2 => cases h
 rename_i si di hsi hdi
 have hs := hc.ty _ _ hsi
 have hd := hc.ty _ _ hdi
 split at h
 ·-- numbers
  rename_i k k' k'' i h1 h2
  injection h with h; injection h with hh1 hh2; subst hh1; subst hh2
  rw [hx.inv_int]
  exact ⟨.int k' (k'.wrap i), w, by simp [convert, hs.run_und, hd.run_und, h1, h2, Conv.intToInt], Good.same hR (.int _ _)⟩
 ·-- a string
  rename_i s h1 h2
  injection h with h; injection h with hh1 hh2; subst hh1; subst hh2
  obtain ⟨bs, rfl, hb⟩ := hx.inv_str
  exact ⟨.string bs, w, by simp [convert, hs.run_und, hd.run_und, h1, h2], Good.same hR hx⟩
 ·-- a string's bytes
  rename_i e s h1 h2
  split at h
  case h_2 => cases h
  rename_i ei hei
  have he := hc.ty _ _ hei
  split at h
  case h_2 => cases h
  rename_i hu8
  injection h with h; injection h with hh1 hh2; subst hh1; subst hh2
  obtain ⟨bs, rfl, hb⟩ := hx.inv_str
  have hlen : bs.size = s.length := by rw [← hb]; simp
  let cap := (Question.appendCap bs.size 0 e).cut (w.tape w.drawn (.appendCap bs.size 0 e))
  have hcap : bs.size ≤ cap := by simp [cap, Question.cut]
  let cur : Array Value := (bs.data.map fun b => Value.int .u8 b.toNat) ++ Array.replicate (cap - bs.size) (.int .u8 0)
  have hcs : cur.size = cap := by simp [cur]; omega
  let w0 : World := { w with drawn := w.drawn + 1 }
  have hR0 : R S w0 g base bd := hR.drawn rfl rfl rfl rfl
  have e0 : Evo S.length g w g w0 := Evo.drawn rfl rfl rfl rfl
  have hf : Flat g w0 S.length 1 (s.map fun b => .int .u8 b.toNat) (s.map fun b => .int .u8 b.toNat) := by
   refine ⟨by simp, fun i x hi => ?_, fun i x j c hi hj => ?_, fun u hu => ?_⟩
   ·rw [List.getElem?_map] at hi
    cases hs : s[i]? with
    | none => simp [hs] at hi
    | some b => simp [hs] at hi; subst hi; rfl
   ·rw [List.getElem?_map] at hi
    cases hs : s[i]? with
    | none => simp [hs] at hi
    | some b =>
     simp [hs] at hi; subst hi
     cases j with
     | succ j => simp [PV.cells] at hj
     | zero =>
      simp [PV.cells] at hj; subst hj
      simp [List.getElem?_map, hs]
      exact .int _ _
   ·simp only [List.mem_map] at hu
    obtain ⟨b, _, rfl⟩ := hu
    rfl
  have hcl : cur.toList = (s.map fun b => Value.int .u8 b.toNat) ++ (Array.replicate (cap - bs.size) (Value.int .u8 0)).toList := by
   simp [cur, ← hb]
  obtain ⟨g', k1, k2, k3, k4⟩ := new_tip hR0 hf e hcl (by simpa using hcs) (by simpa [hlen] using hcap) (cap, cap + 1) (fun i hi h => by omega)
  have hrun : (convert src dst (.string bs)).run P w = .ok (.slice (some ⟨w0.heap.size, 0, none⟩) bs.size cap) (w0.alloc (.cells cur e (cap, cap + 1))) := by
   have hfz : (w0.alloc (.cells cur e)).freeze { block := w0.heap.size, off := cap } 1 = w0.alloc (.cells cur e (cap, cap + 1)) := by
    unfold World.freeze World.alloc
    simp only [Nat.one_ne_zero, if_false]
    congr 1
    apply Array.ext (by simp)
    intro i hi1 hi2
    simp only [Array.size_modify, Array.size_push] at hi1
    rw [Array.getElem_modify]
    by_cases hi : i = w0.heap.size
    ·subst hi; simp
    ·rw [if_neg (by omega)]
     rw [Array.getElem_push_lt (by omega), Array.getElem_push_lt (by omega)]
   have hsh : (w0.alloc (.cells cur e)).shape? w0.heap.size = some (e, cap) := by
    have := alloc_new w0 (.cells cur e)
    simp only [World.shape?, this, hcs]
   have hq : (Question.appendCap bs.size 0 e).forced = false := rfl
   simp only [convert, Sem.run_bind, hs.run_und, hd.run_und, Result.andThen_ok, h1, h2, he.run_und, hu8, Conv.stringToBytes]
   rw [run_choose, hq, if_neg (by simp), Result.andThen_ok]
   simp only [newRow, Sem.run_bind, run_newObj, Result.andThen_ok, Sem.run_pure]
   show (((markStringish ⟨w0.heap.size, 0, none⟩).run P (w0.alloc (.cells cur e))).andThen _) = _
   simp only [markStringish, Sem.run_bind, run_shape, hsh, Result.andThen_ok, run_freeze, hfz]
   rfl
  simp only [List.length_map] at k1 k2 k4
  rw [hlen] at hrun
  exact ⟨_, _, hrun, g', k1, k2, e0.trans k3, k4⟩
 ·-- bytes to a string
  rename_i e xs tag h1 h2
  split at h
  case h_2 => cases h
  rename_i ei hei
  have he := hc.ty _ _ hei
  split at h
  case h_2 => cases h
  rename_i hu8
  cases hb : convPV.bytesOfPV xs with
  | none => simp [hb] at h
  | some b =>
   simp [hb] at h
   obtain ⟨hh1, hh2⟩ := h; subst hh1; subst hh2
   have hcase : (xs = [] ∧ tag = .none ∧ ∃ a, _ = Value.slice (some a) 0 0) ∨ ∃ b o cap sz us, _ = Value.slice (some ⟨b, o, none⟩) xs.length cap ∧ xs.length ≤ cap ∧ Flat g w S.length sz xs us ∧
     (∀ k, k < us.length → o + k < g.pp b) ∧ (∀ (k : Nat) (u : Value), us[k]? = some u → w.cell? ⟨b, o + k, none⟩ = some u) ∧ TagOk g w S.length tag b o xs.length cap sz := hx.flat'
   rcases hcase with ⟨rfl, rfl, a, rfl⟩ | ⟨bl, o, cap, sz, us, rfl, c0, cf, cp, cc, ct⟩
   ·simp only [convPV.bytesOfPV, Option.some.injEq] at hb
    subst hb
    refine ⟨.string .empty, w, by simp [convert, hs.run_und, hd.run_und, h1, h2, he.run_und, hu8, Conv.bytesToString, loadCells, loadCellsFrom], Good.same hR ?_⟩
    have := V.str (g := g) (w := w) (n := S.length) .empty
    simpa using this
   have h1s : sizedAll 1 xs = true := by
    clear cf cp cc ct hx c0
    induction xs generalizing b with
    | nil => rfl
    | cons x xs ih =>
     unfold convPV.bytesOfPV at hb
     split at hb
     ·rename_i he; cases he
     ·rename_i k r he
      injection he with he1 he2
      subst he1; subst he2
      cases hb' : convPV.bytesOfPV xs with
      | none => simp [hb'] at hb
      | some b' => simp [sizedAll, PV.cells, ih b' hb']
     ·cases hb
   obtain ⟨cf', _⟩ := sized_flat cf h1s
   have hul : us.length = xs.length := by rw [cf'.1]; omega
   have hld := run_loadCells_list (P := P) w ⟨bl, o, none⟩ us (fun j v hj => by rw [add_mk]; exact cc j v hj)
   have hbs := fun f hf => bytesOfPV_sound (P := P) (g := g) (w := w) (n := S.length) f hf xs us b .empty hul.symm (fun i c hi => by
    have hcl := sizedAll_get h1s hi
    have hcell : c.cells = [c] := by
     cases c with
     | agg cs =>
      exfalso
      have hmem : ∀ (l : List PV) (r : List UInt8), convPV.bytesOfPV l = some r → ∀ (k : Nat) (z : PV), l[k]? = some z → ∃ q, z = .int .u8 q := by
       intro l
       induction l with
       | nil => intro r _ k z hk; simp at hk
       | cons y l ih =>
        intro r hr k z hk
        unfold convPV.bytesOfPV at hr
        split at hr
        ·rename_i he; cases he
        ·rename_i q r' he
         injection he with he1 he2
         subst he1; subst he2
         cases hb' : convPV.bytesOfPV l with
         | none => simp [hb'] at hr
         | some b' =>
          cases k with
          | zero => simp at hk; subst hk; exact ⟨q, rfl⟩
          | succ k => exact ih b' hb' k z (by simpa using hk)
        ·cases hr
      obtain ⟨q, hq⟩ := hmem xs b hb i _ hi
      cases hq
     | _ => rfl
    have := cf'.2.2.1 i c 0 c hi (by rw [hcell]; rfl)
    simpa using this) hb
   have hsv : V g w S.length (.str b) (.string ⟨b.toArray⟩) := by
    have := V.str (g := g) (w := w) (n := S.length) ⟨b.toArray⟩
    simpa using this
   refine ⟨.string ⟨b.toArray⟩, w, ?_, Good.same hR hsv⟩
   simp only [convert, Sem.run_bind, hs.run_und, hd.run_und, Result.andThen_ok, h1, h2, he.run_und, hu8, Conv.bytesToString]
   rw [← hul, hld, Result.andThen_ok]
   rw [← Array.forIn_toList]
   rw [show us.toArray.toList = us from rfl, hbs]
   ·simp
   ·intro n r; rfl
 ·-- nil
  rename_i e h1 h2
  split at h
  case h_2 => cases h
  rename_i ei hei
  have he := hc.ty _ _ hei
  split at h
  case h_2 => cases h
  rename_i hu8
  injection h with h; injection h with hh1 hh2; subst hh1; subst hh2
  rw [hx.inv_nils]
  refine ⟨.string .empty, w, by simp [convert, hs.run_und, hd.run_und, h1, h2, he.run_und, hu8, Conv.bytesToString], Good.same hR ?_⟩
  have := V.str (g := g) (w := w) (n := S.length) .empty
  simpa using this
 ·cases h
theorem step_len (hc : CtxTy P ctx) (hR : R S w g base bd) {ts : Array TypeId} {t ty : TypeId} {x : PV} {args : Array Value} {x' : Value} {i : Int} (ht : ts[0]? = some t) (h0 : args[0]? = some x') (hx : V g w S.length x x')
  (h : lenPV ctx t x S = some i) : (Builtin.len_ ts ty args).run P w = .ok (.int .i64 i) w := by
 unfold lenPV at h
 split at h
 ·cases h
 rename_i ti hti
 have htt := hc.ty _ _ hti
 simp only [Builtin.len_, ht, h0, Sem.run_bind, htt.run_und, Result.andThen_ok]
 split at h
 ·rename_i s hund
  obtain ⟨bs, rfl, hb⟩ := hx.inv_str
  injection h with h; subst h
  rw [hund]; simp [goInt, ← hb]
 ·rename_i m e hund
  injection h with h; subst h
  rw [hund]; simp [goInt]
 ·rename_i hund
  injection h with h; subst h
  rw [hx.inv_nils, hund]; simp [goInt]
 ·rename_i xs tag hund
  injection h with h; subst h
  rcases hx.inv_lst with ⟨rfl, _, a, rfl⟩ | ⟨b, o, cap, sz, u, rfl, _⟩ <;> (rw [hund]; simp [goInt])
 ·rename_i id off len hund
  injection h with h; subst h
  obtain ⟨cap, rfl, _⟩ := hx.inv_hsl
  rw [hund]; simp [goInt]
 ·rename_i hund
  injection h with h; subst h
  obtain ⟨a, rfl⟩ := hx.inv_emp
  rw [hund]; simp [goInt]
 ·rename_i id len hund
  injection h with h; subst h
  obtain ⟨rfl, _⟩ := hx.inv_rsl
  rw [hund]; simp [goInt]
 ·rename_i hund
  injection h with h; subst h
  rw [hx.inv_nilm, hund]; simp [goInt]
 ·rename_i id hund
  split at h
  case h_2 => cases h
  rename_i es hes
  injection h with h; subst h
  obtain ⟨rfl, h1, h2⟩ := hx.inv_map
  obtain ⟨l1, l2, l3, es', l4, l5, l6⟩ := hR.live id _ hes
  rw [hund]
  have : (getObj (g.loc id)).run P w = .ok (.map es' es.length) w := by simp [getObj, Sem.run, l4]
  simp [this, goInt, l5]
 ·cases h
theorem minmax_go (mx : Bool) : ∀ (xs : List PV) (us : List Value) (k : IntKind) (i : Int) (y : PV), xs.length = us.length → (∀ (j : Nat) (c : PV), xs[j]? = some c → V g w n c (us.getD j undef)) → minmax.go mx k i xs = some y →
  ∃ v, (us.foldlM (m := Sem) (if mx then Builtin.max2 else Builtin.min2) (.int k i)).run P w = .ok v w ∧ V g w n y v
 | [], [], k, i, y, _, _, h => by
  simp [minmax.go] at h; subst h
  exact ⟨_, rfl, .int _ _⟩
 | [], _ :: _, _, _, _, h, _, _ => by simp at h
 | _ :: _, [], _, _, _, h, _, _ => by simp at h
 | x :: xs, u :: us, k, i, y, hl, hV, h => by
  have hx := hV 0 x rfl
  simp at hx
  unfold minmax.go at h
  split at h
  ·rename_i he; cases he
  ·rename_i k' m r he
   injection he with he1 he2
   subst he1; subst he2
   obtain ⟨v, h1, h2⟩ := minmax_go mx xs us k _ y (by simpa using hl) (fun j c hj => by have := hV (j + 1) c (by simpa using hj); simpa using this) h
   refine ⟨v, ?_, h2⟩
   rw [hx.inv_int]
   simp only [List.foldlM_cons, Sem.run_bind]
   cases mx <;> simp_all [Builtin.max2, Builtin.min2]
  ·cases h
theorem step_minmax (mx : Bool) {ts : Array TypeId} {ty : TypeId} {xs : List PV} {args : Array Value} {y : PV} (hl : xs.length = args.size) (hV : ∀ (j : Nat) (c : PV), xs[j]? = some c → V g w n c (args.getD j undef))
    (h : minmax mx xs = some y) : ∃ v, ((if mx then Builtin.max_ ts ty args else Builtin.min_ ts ty args)).run P w = .ok v w ∧ V g w n y v := by
  unfold minmax at h
  split at h
  · cases h
  · rename_i k i r
    have hsz : 0 < args.size := by simp at hl; omega
    obtain ⟨u, us, hargs⟩ : ∃ u us, args.toList = u :: us := by
      cases hh : args.toList with
      | nil => have h0 : args.toList.length = 0 := by rw [hh]; rfl
               rw [Array.length_toList] at h0; omega
      | cons u us => exact ⟨u, us, rfl⟩
    have hV' : ∀ (j : Nat) (c : PV), (PV.int k i :: r)[j]? = some c → V g w n c ((u :: us).getD j undef) := fun j c hj => by
      rw [← hargs, getD_toList]; exact hV j c hj
    have h0 := hV' 0 _ rfl
    simp at h0
    obtain ⟨v, h1, h2⟩ := minmax_go (P := P) mx r us k i y (by have := congrArg List.length hargs; simp at this hl; omega) (fun j c hj => by have := hV' (j + 1) c (by simpa using hj); simpa using this) h
    refine ⟨v, ?_, h2⟩
    rw [h0.inv_int] at hargs
    cases mx
    · simp only [Bool.false_eq_true, if_false, Builtin.min_, hargs]
      simpa using h1
    · simp only [if_true, Builtin.max_, hargs]
      simpa using h1
  · cases h
theorem step_assert (hc : CtxTy P ctx) {x y : PV} {x' : Value} {xt t : TypeId} {ok : Bool} (hx : V g w n x x') (h : assertPV ctx x t ok = some y) :
  ∃ v, (Instr.typeAssert x' xt t ok).run P w = .ok v w ∧ V g w n y v := by
 unfold assertPV at h
 split at h
 ·cases h
 rename_i ti hti
 have ht := hc.ty _ _ hti
 obtain ⟨z, z1, z2, z3⟩ := ht.run_zero w
 have hzV := absV_sound g w n z2
 have pairV : ∀ (a b : PV) (a' b' : Value), V g w n a a' → V g w n b b' → V g w n (.tup [a, b]) (.tuple #[a', b']) := by
  intro a b a' b' ha hb
  refine .tup _ _ rfl (fun i c hi => ?_)
  match i with
  | 0 => simp at hi; subst hi; exact ha
  | 1 => simp at hi; subst hi; exact hb
  | i + 2 => simp at hi
 split at h
 ·cases h
 ·rename_i hni
  split at h
  case isFalse => cases h
  rename_i hok
  injection h with h; subst h
  rw [hx.inv_nili]
  refine ⟨.tuple #[z, .bool false], ?_, pairV _ _ _ _ hzV (.bool _)⟩
  simp only [Instr.typeAssert, Sem.run_bind, ht.run_und, Result.andThen_ok]
  cases hu : ti.und <;> first | (exact absurd hu (hni _)) | simp [hok, z1]
 ·rename_i u v hni
  obtain ⟨v', rfl, hv⟩ := hx.inv_ifc
  split at h
  ·rename_i hut
   injection h with h; subst h
   subst hut
   cases ok
   ·refine ⟨v', ?_, by simpa using hv⟩
    simp only [Instr.typeAssert, Sem.run_bind, ht.run_und, Result.andThen_ok]
    cases hu : ti.und <;> first | (exact absurd hu (hni _)) | simp
   ·refine ⟨.tuple #[v', .bool true], ?_, by simpa using pairV _ _ _ _ hv (.bool _)⟩
    simp only [Instr.typeAssert, Sem.run_bind, ht.run_und, Result.andThen_ok]
    cases hu : ti.und <;> first | (exact absurd hu (hni _)) | simp
  ·rename_i hut
   split at h
   case isFalse => cases h
   rename_i hok
   injection h with h; subst h
   refine ⟨.tuple #[z, .bool false], ?_, pairV _ _ _ _ hzV (.bool _)⟩
   simp only [Instr.typeAssert, Sem.run_bind, ht.run_und, Result.andThen_ok]
   cases hu : ti.und <;> first | (exact absurd hu (hni _)) | simp [hok, hut, z1]
 ·cases h
theorem step_method (hc : CtxTy P ctx) {x v : PV} {x' : Value} {name : String} {f : FuncId} {fuel : Nat} (hx : V g w n x x') (h : methodPV ctx x name = some (f, v)) :
  ∃ t y' v', x' = .iface t y' ∧ (method (fuel + 1) t y' name).run P w = .ok (f, v') w ∧ V g w n v v' := by
 unfold methodPV at h
 split at h
 case h_2 => cases h
 rename_i t y
 obtain ⟨y', rfl, hy⟩ := hx.inv_ifc
 split at h
 ·cases h
 rename_i ti hti
 have ht := hc.ty _ _ hti
 obtain ⟨i, z, i1, _, _, _, _, _, _, i8⟩ := ht.info
 split at h
 ·cases h
 rename_i m hm
 split at h
 case isFalse => cases h
 rename_i hp
 have hfind : i.methods.find? (fun x => x.name == name) = some m := by
  rw [← Array.find?_toList, i8]; exact hm
 have hpath : m.path = #[] := by simpa using hp
 have key : ∀ (b : Bool), m.func = some (f, b) → (receiverAt t (.val y') b (some ((name.splitOn ".").getLastD name))).run P w = .ok y' w → (method (fuel + 1) t y' name).run P w = .ok (f, y') w := by
  intro b hb hr
  simp only [method, typeInfo, Sem.run_bind, run_program, Result.andThen_ok, i1, Sem.run_pure, hfind, hpath, follow, hb, List.toList_toArray]
  have e : (#[] : Array FieldStep).isEmpty = true := rfl
  simp only [e, if_true, hr, Result.andThen_ok]
 split at h
 ·rename_i f' e hf hund
  injection h with h; injection h with h1 h2; subst h1; subst h2
  refine ⟨t, y', y', rfl, key true hf ?_, hy⟩
  simp [receiverAt, ht.run_und, hund, Place.get]
 ·cases h
 ·rename_i f' hf hne
  injection h with h; injection h with h1 h2; subst h1; subst h2
  refine ⟨t, y', y', rfl, key false hf ?_, hy⟩
  simp only [receiverAt, Sem.run_bind, ht.run_und, Result.andThen_ok]
  cases hu : ti.und <;> first | (exfalso; exact hne _ hu) | simp [Place.get]
 ·cases h
end
end Go.Pam
