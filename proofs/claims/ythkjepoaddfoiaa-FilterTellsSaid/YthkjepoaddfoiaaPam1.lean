/- The values of the abstract machine, and how they stand to the model's values. -/
import Derived.Tactics
import Derived.LoopN
import Derived.Below
import Derived.Orders
import Derived.Laws.IdiomCopy
import Derived.Laws.Cells
namespace Go.Pam
set_option linter.unusedVariables false
set_option linter.unusedSimpArgs false

inductive Tag where
  | none
  | full
  | tip (id : Nat)
  deriving DecidableEq

inductive PV where
  | poison
  | bool (b : Bool)
  | int (k : IntKind) (n : Int)
  | str (s : List UInt8)
  | nilp
  | ptr (id off : Nat)
  | iptr (cells : List PV) (off : Nat)
  | nils
  | lst (xs : List PV) (tag : Tag)
  | hsl (id off len : Nat)
  | emp
  | rsl (id len : Nat)
  | nilm
  | map (id : Nat)
  | nilf
  | fn (f : Fn) (first captured : List PV)
  | nili
  | ifc (t : TypeId) (v : PV)
  | agg (cells : List PV)
  | tup (vs : List PV)

instance : Inhabited PV := ⟨.poison⟩

def PV.cells : PV → List PV
  | .agg cs => cs
  | v => [v]

inductive SObj where
  | cells (cs : List PV)
  | map (es : List (PV × PV))
  | tip (hw sz : Nat)
  | dead
  | row (xs : List PV) (sz : Nat) (fz : Bool)
  | bld (t : TypeId) (u : Bool) (b : Option (Nat × Nat))
  | buf (bs : List UInt8) (t : TypeId)

def bufVal (loc hw : Nat → Nat) : Option (Nat × Nat) → Value
  | none => .slice none 0 0
  | some (j, n) => .slice (some ⟨loc j, 0, none⟩) n (hw j)

structure G where
  pp : Nat → Nat
  loc : Nat → Nat
  hw : Nat → Nat
  tsz : Nat → Nat
  obj : Nat → Bool
  fix : Nat → Prop

def TipC (g : G) (w : World) (id cap : Nat) : Prop :=
  ∃ cur e fr, w.heap[g.loc id]? = some (.cells cur e fr) ∧ cur.size = cap * g.tsz id ∧
    (∀ i, g.hw id * g.tsz id ≤ i → i < cur.size → w.frozen? ⟨g.loc id, i, none⟩ = false) ∧ g.pp (g.loc id) = g.hw id * g.tsz id

def TagOk (g : G) (w : World) (n : Nat) (tag : Tag) (b o len cap sz : Nat) : Prop :=
  match tag with
  | .none => True
  | .full => len = cap
  | .tip id => id < n ∧ g.obj id = false ∧ len ≤ g.hw id ∧ (g.hw id = len → o = 0 ∧ b = g.loc id ∧ sz = g.tsz id ∧ TipC g w id cap)

inductive V (g : G) (w : World) (n : Nat) : PV → Value → Prop
  | poison (v : Value) : V g w n .poison v
  | bool (b : Bool) : V g w n (.bool b) (.bool b)
  | int (k : IntKind) (i : Int) : V g w n (.int k i) (.int k i)
  | str (s : ByteArray) : V g w n (.str s.data.toList) (.string s)
  | nilp : V g w n .nilp (.pointer none)
  | ptr (id off : Nat) (h : id < n) (ho : g.obj id = true) : V g w n (.ptr id off) (.pointer (some ⟨g.loc id, off, none⟩))
  | iptr (cells : List PV) (off b o : Nat) (u : Nat → Value)
      (h1 : ∀ (j : Nat) (c : PV), cells[j]? = some c → o + j < g.pp b)
      (h2 : ∀ (j : Nat) (c : PV), cells[j]? = some c → w.cell? ⟨b, o + j, none⟩ = some (u j))
      (h3 : ∀ (j : Nat) (c : PV), cells[j]? = some c → V g w n c (u j))
      (h4 : ∀ (j : Nat), j < cells.length → (u j).oneCell' = true) : V g w n (.iptr cells off) (.pointer (some ⟨b, o + off, none⟩))
  | nils : V g w n .nils (.slice none 0 0)
  | lst (xs : List PV) (tag : Tag) (b o cap sz : Nat) (u : Nat → Nat → Value) (hc : xs.length ≤ cap)
      (h1 : ∀ (i : Nat) (x : PV), xs[i]? = some x → x.cells.length = sz)
      (h2 : ∀ (i : Nat) (x : PV) (j : Nat) (c : PV), xs[i]? = some x → x.cells[j]? = some c → o + i * sz + j < g.pp b)
      (h3 : ∀ (i : Nat) (x : PV) (j : Nat) (c : PV), xs[i]? = some x → x.cells[j]? = some c → w.cell? ⟨b, o + i * sz + j, none⟩ = some (u i j))
      (h4 : ∀ (i : Nat) (x : PV) (j : Nat) (c : PV), xs[i]? = some x → x.cells[j]? = some c → V g w n c (u i j))
      (h5 : ∀ (i : Nat) (x : PV) (j : Nat), xs[i]? = some x → j < sz → (u i j).oneCell' = true)
      (ht : TagOk g w n tag b o xs.length cap sz) : V g w n (.lst xs tag) (.slice (some ⟨b, o, none⟩) xs.length cap)
  | lst0 (a : Addr) : V g w n (.lst [] .none) (.slice (some a) 0 0)
  | hsl (id off len cap : Nat) (h : id < n) (ho : g.obj id = true) (hc : len ≤ cap) : V g w n (.hsl id off len) (.slice (some ⟨g.loc id, off, none⟩) len cap)
  | emp (a : Addr) : V g w n .emp (.slice (some a) 0 0)
  | rsl (id len : Nat) (h : id < n) (ho : g.obj id = true) (hc : len ≤ g.hw id) : V g w n (.rsl id len) (.slice (some ⟨g.loc id, 0, none⟩) len (g.hw id))
  | nilm : V g w n .nilm (.map none)
  | map (id : Nat) (h : id < n) (ho : g.obj id = true) : V g w n (.map id) (.map (some (g.loc id)))
  | nilf : V g w n .nilf .nilFunc
  | fn (f : Fn) (as bs : List PV) (as' bs' : Array Value) (ha : as.length = as'.size) (hb : bs.length = bs'.size)
      (h1 : ∀ (i : Nat) (c : PV), as[i]? = some c → V g w n c (as'.getD i undef))
      (h2 : ∀ (i : Nat) (c : PV), bs[i]? = some c → V g w n c (bs'.getD i undef)) : V g w n (.fn f as bs) (.func f as' bs')
  | nili : V g w n .nili .nilIface
  | ifc (t : TypeId) (v : PV) (v' : Value) (h : V g w n v v') : V g w n (.ifc t v) (.iface t v')
  | agg (cs : List PV) (cs' : Array Value) (hl : cs.length = cs'.size)
      (h1 : ∀ (i : Nat) (c : PV), cs[i]? = some c → V g w n c (cs'.getD i undef))
      (h2 : ∀ v ∈ cs', v.oneCell' = true) : V g w n (.agg cs) (.agg cs')
  | tup (cs : List PV) (cs' : Array Value) (hl : cs.length = cs'.size)
      (h1 : ∀ (i : Nat) (c : PV), cs[i]? = some c → V g w n c (cs'.getD i undef)) : V g w n (.tup cs) (.tuple cs')

structure Evo (n : Nat) (g : G) (w : World) (g' : G) (w' : World) : Prop where
  pp : ∀ b, g.pp b ≤ g'.pp b
  cell : ∀ b o, o < g.pp b → w'.cell? ⟨b, o, none⟩ = w.cell? ⟨b, o, none⟩
  obj : ∀ id, id < n → g'.obj id = g.obj id
  loc : ∀ id, id < n → (g.obj id = true ∨ g'.hw id = g.hw id) → g'.loc id = g.loc id
  tsz : ∀ id, id < n → g'.tsz id = g.tsz id
  hw : ∀ id, id < n → g.hw id ≤ g'.hw id
  hwo : ∀ id, id < n → g.obj id = true → g'.hw id = g.hw id
  tip : ∀ id cap, id < n → g.obj id = false → g'.hw id = g.hw id → TipC g w id cap → TipC g' w' id cap
  size : w.heap.size ≤ w'.heap.size
  fix : g'.fix = g.fix
  low : ∀ k, g.fix k → w'.heap[k]? = w.heap[k]?
  pplow : ∀ k, g.fix k → g'.pp k = g.pp k
  os : w'.os = w.os
  tape : w'.tape = w.tape
  output : w'.output = w.output


theorem Evo.refl (n : Nat) (g : G) (w : World) : Evo n g w g w :=
  ⟨fun _ => Nat.le_refl _, fun _ _ _ => rfl, fun _ _ => rfl, fun _ _ _ => rfl, fun _ _ => rfl, fun _ _ => Nat.le_refl _, fun _ _ _ => rfl, fun _ _ _ _ _ h => h, Nat.le_refl _, rfl, fun _ _ => rfl, fun _ _ => rfl, rfl, rfl, rfl⟩

theorem Evo.mono {n m : Nat} {g g' : G} {w w' : World} (h : Evo n g w g' w') (hm : m ≤ n) : Evo m g w g' w' :=
  ⟨h.pp, h.cell, fun id hi => h.obj id (by omega), fun id hi => h.loc id (by omega), fun id hi => h.tsz id (by omega), fun id hi => h.hw id (by omega), fun id hi => h.hwo id (by omega), fun id c hi => h.tip id c (by omega), h.size, h.fix, h.low, h.pplow, h.os, h.tape, h.output⟩

theorem Evo.trans {n : Nat} {g g' g'' : G} {w w' w'' : World} (h : Evo n g w g' w') (k : Evo n g' w' g'' w'') : Evo n g w g'' w'' where
  pp b := Nat.le_trans (h.pp b) (k.pp b)
  cell b o ho := (k.cell b o (Nat.lt_of_lt_of_le ho (h.pp b))).trans (h.cell b o ho)
  obj id hi := (k.obj id hi).trans (h.obj id hi)
  loc id hi ho := by
    have h1 := h.hw id hi
    have h2 := k.hw id hi
    rcases ho with ho | ho
    · exact (k.loc id hi (.inl ((h.obj id hi).trans ho))).trans (h.loc id hi (.inl ho))
    · exact (k.loc id hi (.inr (by omega))).trans (h.loc id hi (.inr (by omega)))
  tsz id hi := (k.tsz id hi).trans (h.tsz id hi)
  hw id hi := Nat.le_trans (h.hw id hi) (k.hw id hi)
  hwo id hi ho := (k.hwo id hi ((h.obj id hi).trans ho)).trans (h.hwo id hi ho)
  tip id cap hi ho he ht := by
    have h1 := h.hw id hi
    have h2 := k.hw id hi
    exact k.tip id cap hi ((h.obj id hi).trans ho) (by omega) (h.tip id cap hi ho (by omega) ht)
  size := Nat.le_trans h.size k.size
  fix := k.fix.trans h.fix
  low i hi := (k.low i (by rw [h.fix]; exact hi)).trans (h.low i hi)
  pplow i hi := (k.pplow i (by rw [h.fix]; exact hi)).trans (h.pplow i hi)
  os := k.os.trans h.os
  tape := k.tape.trans h.tape
  output := k.output.trans h.output

theorem TagOk.evo {n : Nat} {g g' : G} {w w' : World} (e : Evo n g w g' w') {tag : Tag} {b o len cap sz : Nat}
    (h : TagOk g w n tag b o len cap sz) : TagOk g' w' n tag b o len cap sz := by
  cases tag with
  | none => trivial
  | full => exact h
  | tip id =>
    obtain ⟨hi, hob, hle, ht⟩ := h
    have hh := e.hw id hi
    refine ⟨hi, (e.obj id hi).trans hob, by omega, fun hl => ?_⟩
    obtain ⟨h1, h2, h3, h4⟩ := ht (by omega)
    have he : g'.hw id = g.hw id := by omega
    exact ⟨h1, h2.trans (e.loc id hi (.inr he)).symm, h3.trans (e.tsz id hi).symm, e.tip id cap hi hob he h4⟩

theorem TagOk.mono {n m : Nat} {g : G} {w : World} (hm : n ≤ m) {tag : Tag} {b o len cap sz : Nat}
    (h : TagOk g w n tag b o len cap sz) : TagOk g w m tag b o len cap sz := by
  cases tag with
  | none => trivial
  | full => exact h
  | tip id => exact ⟨Nat.lt_of_lt_of_le h.1 hm, h.2⟩

theorem V.mono {n m : Nat} {g : G} {w : World} (hm : n ≤ m) {x : PV} {v : Value} (h : V g w n x v) : V g w m x v := by
  induction h with
  | poison v => exact .poison v
  | bool b => exact .bool b
  | int k i => exact .int k i
  | str s => exact .str s
  | nilp => exact .nilp
  | ptr id off h ho => exact .ptr id off (by omega) ho
  | iptr cells off b o u h1 h2 _ h4 ih => exact .iptr cells off b o u h1 h2 ih h4
  | nils => exact .nils
  | lst xs tag b o cap sz u hc h1 h2 h3 _ h5 ht ih => exact .lst xs tag b o cap sz u hc h1 h2 h3 ih h5 (ht.mono hm)
  | lst0 a => exact .lst0 a
  | hsl id off len cap h ho hc => exact .hsl id off len cap (by omega) ho hc
  | emp a => exact .emp a
  | rsl id len h ho hc => exact .rsl id len (by omega) ho hc
  | nilm => exact .nilm
  | map id h ho => exact .map id (by omega) ho
  | nilf => exact .nilf
  | fn f as bs as' bs' ha hb _ _ ih1 ih2 => exact .fn f as bs as' bs' ha hb ih1 ih2
  | nili => exact .nili
  | ifc t v v' _ ih => exact .ifc t v v' ih
  | agg cs cs' hl _ h2 ih => exact .agg cs cs' hl ih h2
  | tup cs cs' hl _ ih => exact .tup cs cs' hl ih

theorem V.evo {n : Nat} {g g' : G} {w w' : World} (e : Evo n g w g' w') {x : PV} {v : Value} (h : V g w n x v) : V g' w' n x v := by
  induction h with
  | poison v => exact .poison v
  | bool b => exact .bool b
  | int k i => exact .int k i
  | str s => exact .str s
  | nilp => exact .nilp
  | ptr id off h ho => rw [← e.loc id h (.inl ho)]; exact .ptr id off h ((e.obj id h).trans ho)
  | iptr cells off b o u h1 h2 _ h4 ih =>
    exact .iptr cells off b o u (fun j c hj => Nat.lt_of_lt_of_le (h1 j c hj) (e.pp b)) (fun j c hj => (e.cell b _ (h1 j c hj)).trans (h2 j c hj)) ih h4
  | nils => exact .nils
  | lst xs tag b o cap sz u hc h1 h2 h3 _ h5 ht ih =>
    exact .lst xs tag b o cap sz u hc h1 (fun i x j c hi hj => Nat.lt_of_lt_of_le (h2 i x j c hi hj) (e.pp b))
      (fun i x j c hi hj => (e.cell b _ (h2 i x j c hi hj)).trans (h3 i x j c hi hj)) ih h5 (ht.evo e)
  | lst0 a => exact .lst0 a
  | hsl id off len cap h ho hc => rw [← e.loc id h (.inl ho)]; exact .hsl id off len cap h ((e.obj id h).trans ho) hc
  | emp a => exact .emp a
  | rsl id len h ho hc => rw [← e.loc id h (.inl ho), ← e.hwo id h ho]; exact .rsl id len h ((e.obj id h).trans ho) (by rw [e.hwo id h ho]; exact hc)
  | nilm => exact .nilm
  | map id h ho => rw [← e.loc id h (.inl ho)]; exact .map id h ((e.obj id h).trans ho)
  | nilf => exact .nilf
  | fn f as bs as' bs' ha hb _ _ ih1 ih2 => exact .fn f as bs as' bs' ha hb ih1 ih2
  | nili => exact .nili
  | ifc t v v' _ ih => exact .ifc t v v' ih
  | agg cs cs' hl _ h2 ih => exact .agg cs cs' hl ih h2
  | tup cs cs' hl _ ih => exact .tup cs cs' hl ih

end Go.Pam
