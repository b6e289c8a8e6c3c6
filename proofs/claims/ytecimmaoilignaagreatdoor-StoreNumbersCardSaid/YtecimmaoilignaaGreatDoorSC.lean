/- slices.Collect of maps.Keys of a map of one entry, whose key is a struct of three numbers. (Turned from the guide's worked example on slices.Collect at a map of strings.) -/
import Derived.Test.YtecimmaoilignaaGreatDoorProg
import Derived.RangeFuncGives
import Derived.Maps.AppendAt
import Derived.Shelf.Abstract
import Derived.Sort.MapsRangeIn
import Derived.LoopNIn
namespace Go.Proofs.YtecimmaoilignaaGreatDoor.A
open Go Go.RowKit Go.Maps Go.Shelf Go.Proofs
set_option maxRecDepth 100000
set_option linter.unusedVariables false
set_option linter.unusedSimpArgs false
section
variable {F : Fence} {n : Nat} {P : Program} {w : World} {ops : Array Oper} {rest : List Oper} {o : Oper} {a : Act} {Q : Exit → Act → World → Prop}
theorem run_getMap {w : World} {r : Nat} {es : Array MapEntry} {c : Nat} (h : w.heap[r]? = some (.map es c)) : (getObj r).run P w = .ok (.map es c) w := by simp [getObj, Sem.run, h]
theorem run_getIter {w : World} {r : Nat} {m : Option Nat} {s : Nat} {e : Array Nat} {l : Nat} (h : w.heap[r]? = some (.mapIter m s e l)) : (getObj r).run P w = .ok (.mapIter m s e l) w := by simp [getObj, Sem.run, h]
/-- 'range m', m of one entry. -/
theorem range_one (hg : o.guard = none) (m : Operand) (t k e : TypeId) (hop : o.op = Op.range t m) (ht : P.underlying t = some (.map k e)) (b : Nat) (en : MapEntry) (hm : a.eval m = .map (some b)) (hb : w.heap[b]? = some (.map #[en] 1))
    (hK : wpListIn F n P ops Q rest (a.put o.dst (.pointer (some ⟨w.heap.size, 0, none⟩))) (w.alloc (.mapIter (some b) 1 #[] 1))) : wpListIn F n P ops Q (o :: rest) a w := by
  have hrun : (Instr.range t (.map (some b))).run P w = .ok (.pointer (some ⟨w.heap.size, 0, none⟩)) (w.alloc (.mapIter (some b) 1 #[] 1)) := by
    simp [Instr.range, underlying, ht, run_newObj, run_getMap hb]
  refine wpListIn_plain hg fun K' hK' => ?_
  unfold Oper.wpIn
  refine ⟨by simp [Oper.about, hop], ?_⟩
  rw [Oper.semAt_plain F _ _ (by rw [hop]; intro c hc'; cases hc')]
  simp [execOp, hop, hm, hrun, Result.andThen]
  exact hK' _ _ hK
/-- The one step. -/
theorem run_next_one (b r : Nat) (en : MapEntry) (hr : w.heap[r]? = some (.mapIter (some b) 1 #[] 1)) (hb : w.heap[b]? = some (.map #[en] 1)) (h0 : en.born = 0) (ty : TypeId) :
    (Instr.next (.pointer (some ⟨r, 0, none⟩)) false ty).run P w = .ok (.tuple #[.bool true, en.key, en.val]) { w with heap := w.heap.setIfInBounds r (.mapIter (some b) 1 #[0] 1) } := by
  have hfl : (#[en].filter fun e => !(#[] : Array Nat).contains e.born) = #[en] := by simp
  have hfo : (#[en].filter fun e => decide (e.born < 1)) = #[en] := by simp [h0]
  have hfn : (#[en].filter fun e => decide (e.born ≥ 1)) = #[] := by simp [h0]
  have hso : (setObj r (.mapIter (some b) 1 #[0] 1)).run P w = .ok () { w with heap := w.heap.setIfInBounds r (.mapIter (some b) 1 #[0] 1) } := by simp [setObj, Sem.run, hr]
  simp only [Instr.next, Sem.run_bind, run_getIter hr, Result.andThen_ok, run_getMap hb, Bool.false_eq_true, if_false, hfl, hfo, hfn]
  simp [run_choose, Question.forced, h0, hso]
/-- Nothing is left. -/
theorem run_next_over (b r : Nat) (en : MapEntry) (hr : w.heap[r]? = some (.mapIter (some b) 1 #[0] 1)) (hb : w.heap[b]? = some (.map #[en] 1)) (h0 : en.born = 0) (ty : TypeId) :
    (Instr.next (.pointer (some ⟨r, 0, none⟩)) false ty).run P w = .ok (.tuple #[.bool false]) w := by
  simp [Instr.next, run_getIter hr, run_getMap hb, run_choose, Question.forced, h0]
theorem entry_one (b r : Nat) (en : MapEntry) (hr : w.heap[r]? = some (.mapIter (some b) 1 #[0] 1)) (hb : w.heap[b]? = some (.map #[en] 1)) (h0 : en.born = 0) :
    (Instr.entry (.pointer (some ⟨r, 0, none⟩))).run P w = .ok (.tuple #[en.key, en.val]) w := by
  simp [Instr.entry, run_getIter hr, run_getMap hb, h0]
end
/-- The key. -/
def encK (x y z : Int) : Value := .agg #[.int .i64 x, .int .i64 y, .int .i64 z]
theorem keys_one (F : Fence) (n : Nat) (h10 : F.fn 164) (hro : F.round = none) (hn : 1 ≤ n) (l Bm b : Nat) (en : MapEntry) (x y z : Int) (hk : en.key = encK x y z) (h0 : en.born = 0) (W : World) (Q1 : World → Prop)
    (hY : ∀ W1, Below W.heap.size W W1 → YieldAt F (n - 1) Tryz.prog l #[encK x y z] W1 fun e W' => e = .returned (.bool true) ∧ Q1 W' ∧ KeepsWalks W1 W')
    (hm : W.cell? ⟨Bm, 0, none⟩ = some (.map (some b))) (hb : W.heap[b]? = some (.map #[en] 1)) :
    CallsIn F n Tryz.prog 164 #[.func (.yield l) #[] #[], .pointer (some ⟨Bm, 0, none⟩)] W fun e W' => (∃ v, e = .returned v) ∧ Q1 W' := by
  refine callsIn_of_wp Tryz.func164 rfl h10 ?_ hro
  simp only [Tryz.ntmps164, List.size_toArray, List.length_cons, List.length_nil, Nat.reduceAdd, Nat.reduceSub, Array.replicate_succ, Array.replicate_zero, List.push_toArray, List.append_toArray, List.nil_append, List.cons_append]
  gi_wp2_with (first
    | (gi_at_range; refine range_one rfl _ 159 31 158 rfl Tryz.underlying159 b en rfl hb ?_)
    | gi_in)
  go_frame
  refine wpIn_loop_rounds 2 ?_
  rw [roundsIn_succ]
  have hlt : b < W.heap.size := (Array.getElem?_eq_some_iff.1 hb).1
  obtain ⟨W1, hW1⟩ : ∃ W1, W.alloc (.mapIter (some b) 1 #[] 1) = W1 := ⟨_, rfl⟩
  have hr1 : W1.heap[W.heap.size]? = some (.mapIter (some b) 1 #[] 1) := by rw [← hW1]; exact World.alloc_heap_new W _
  have hb1 : W1.heap[b]? = some (.map #[en] 1) := by rw [← hW1]; exact (Below.heap_alloc _ _ b hlt).trans hb
  have hB1 : Below W.heap.size W W1 := by rw [← hW1]; exact (Below.refl _ W).alloc (Nat.le_refl _) _
  rw [hW1]
  clear hW1
  obtain ⟨W2, hW2⟩ : ∃ W2, ({ W1 with heap := W1.heap.setIfInBounds W.heap.size (.mapIter (some b) 1 #[0] 1) } : World) = W2 := ⟨_, rfl⟩
  have hlr : W.heap.size < W1.heap.size := (Array.getElem?_eq_some_iff.1 hr1).1
  have hnx := run_next_one (P := Tryz.prog) b W.heap.size en hr1 hb1 h0 0
  rw [hW2, hk] at hnx
  have hr2 : W2.heap[W.heap.size]? = some (.mapIter (some b) 1 #[0] 1) := by rw [← hW2]; simp [Array.getElem?_setIfInBounds, hlr]
  have hb2 : W2.heap[b]? = some (.map #[en] 1) := by rw [← hW2]; simp only [Array.getElem?_setIfInBounds]; rw [if_neg (by omega)]; exact hb1
  have hB2 : Below W.heap.size W W2 := hB1.trans ⟨by rw [← hW2], by rw [← hW2], by rw [← hW2], by rw [← hW2]; simp, fun k hk => by rw [← hW2]; simp only [Array.getElem?_setIfInBounds]; rw [if_neg (by omega)]⟩
  have hs2 : W.heap.size < W2.heap.size := (Array.getElem?_eq_some_iff.1 hr2).1
  have hen := entry_one (P := Tryz.prog) b W.heap.size en hr2 hb2 h0
  rw [hk] at hen
  clear hW2 hr1 hb1 hB1
  unfold encK at *
  have hk3 : KeepsWalks W2 (W2.alloc (.cells #[.int .i64 x, .int .i64 y, .int .i64 z] 31)) := KeepsWalks.alloc _ _
  obtain ⟨fn, tmps, assign, body, hy, hR⟩ := hY (W2.alloc (.cells #[.int .i64 x, .int .i64 y, .int .i64 z] 31)) (hB2.alloc hB2.size _)
  gi_wp2
  refine hR.mono ?_
  rintro e W4 ⟨rfl, hQ, hk4⟩
  have hk5 := hk3.trans hk4
  have hnx2 := run_next_over (P := Tryz.prog) b W.heap.size en (hk5.same _ _ hr2 rfl) (hk5.same _ _ hb2 rfl) h0 0
  have hnot : (Op.unary UnOp.not (.bool true)).run Tryz.prog W4 = .ok (.bool false) W4 := rfl
  gi_wp2
  rw [roundsIn_succ]
  gi_wp2
  go_end0
  exact ⟨⟨_, rfl⟩, hQ⟩
/-! ### slices.AppendSeq(nil, seq), one round -/
theorem grownBy_putObj (W : World) (l : Nat) (o : Obj) : W.grownBy (W.putObj l o) (some l) :=
  ⟨rfl, rfl, rfl, by simp, fun k _ hk => World.putObj_heap_other (fun e => hk (by rw [e]))⟩
theorem grownBy_setCell0 (W : World) (b : Nat) (v : Value) : W.grownBy (W.setCell ⟨b, 0, none⟩ v) (some b) :=
  ⟨rfl, rfl, rfl, (KeepsWalks.setCell W _ v).size, fun k _ hk => Below.heap_setCell _ _ _ k (fun e => hk (by rw [e]))⟩
theorem cell_of_box {W : World} {B : Nat} {v : Value} {t : TypeId} (h : W.heap[B]? = some (.cells #[v] t (0, 0))) : W.cell? ⟨B, 0, none⟩ = some v ∧ W.frozen? ⟨B, 0, none⟩ = false := by
  constructor <;> simp [World.cell?, World.frozen?, h]
theorem heap_setCell_box {W : World} {B : Nat} {v : Value} {t : TypeId} (v' : Value) (h : W.heap[B]? = some (.cells #[v] t (0, 0))) : (W.setCell ⟨B, 0, none⟩ v').heap[B]? = some (.cells #[v'] t (0, 0)) := by
  obtain ⟨hlt, hk⟩ := Array.getElem?_eq_some_iff.1 h
  show (W.heap.modify B _)[B]? = _
  rw [Array.getElem?_eq_getElem (by rw [Array.size_modify]; exact hlt), Array.getElem_modify_self, hk]
  rfl
def apAssign : Code := Code.region 2 #[{ dst := some 5, op := Op.alloc 31, type := 0, pos := "iter.go:51", after := #[], guard := none }, { dst := none, op := Op.store 31 (Operand.tmp 5) (Operand.tmp 7), type := 0, pos := "iter.go:51", after := #[{ on := 0, ground := Ground.data }, { on := 0, ground := Ground.phase }], guard := none }] false
def apBody : Code := Code.block 1 (Code.region 3 #[{ dst := some 8, op := Op.load 53 (Operand.tmp 2), type := 53, pos := "iter.go:52", after := #[], guard := none }, { dst := some 9, op := Op.load 31 (Operand.tmp 5), type := 31, pos := "iter.go:52", after := #[], guard := none }, { dst := some 10, op := Op.buildSlice 53 1 #[(0, Operand.tmp 9)], type := 53, pos := "iter.go:52", after := #[{ on := 1, ground := Ground.data }], guard := none }, { dst := some 11, op := Op.call { callee := Callee.builtin Builtin.append, args := #[Operand.tmp 8, Operand.tmp 10], argTypes := #[53, 53] }, type := 53, pos := "iter.go:52", after := #[{ on := 0, ground := Ground.data }, { on := 2, ground := Ground.data }], guard := none }, { dst := none, op := Op.store 53 (Operand.tmp 2) (Operand.tmp 11), type := 0, pos := "iter.go:52", after := #[{ on := 3, ground := Ground.data }, { on := 3, ground := Ground.chain }, { on := 0, ground := Ground.phase }, { on := 1, ground := Ground.phase }, { on := 2, ground := Ground.phase }, { on := 3, ground := Ground.phase }], guard := none }] false)
/-- The loop's record. -/
def apRec (fn : FuncId) (sv : Value) (Bs D : Nat) (st : LoopState) (pend : Option Code) : Loop :=
  { state := st, pending := pend, fn, tmps := #[.slice none 0 0, sv, .pointer (some ⟨Bs, 0, none⟩), undef, .slice none 0 0, undef, sv, undef, undef, undef, undef, undef, undef], params := #[7], assign := apAssign, body := apBody, defers := D }
/-- Ahead of the round. -/
structure At0 (w0 : World) (fn : FuncId) (sv : Value) (Bs l D : Nat) (W : World) : Prop where
  box : W.heap[Bs]? = some (.cells #[.slice none 0 0] 53 (0, 0))
  L : W.heap[l]? = some (.loop (apRec fn sv Bs D .ready none))
  K : W.heap[D]? = some (.deferred (some []))
  below : Below w0.heap.size w0 W
/-- Behind it. -/
structure At1 (w0 : World) (fn : FuncId) (sv : Value) (Bs l D : Nat) (x y z : Int) (W : World) : Prop where
  box : ∃ v, W.heap[Bs]? = some (.cells #[v] 53 (0, 0)) ∧ W.ownsRow w0.heap.size 31 3 v 1 [.int .i64 x, .int .i64 y, .int .i64 z]
  L : W.heap[l]? = some (.loop (apRec fn sv Bs D .ready none))
  K : W.heap[D]? = some (.deferred (some []))
  below : Below w0.heap.size w0 W
theorem At0.later {w0 : World} {fn : FuncId} {sv : Value} {Bs l D : Nat} {W W1 : World} (h : At0 w0 fn sv Bs l D W) (hb : Below W.heap.size W W1) : At0 w0 fn sv Bs l D W1 :=
  ⟨(hb.block Bs (Array.getElem?_eq_some_iff.1 h.box).1).trans h.box, (hb.block l (Array.getElem?_eq_some_iff.1 h.L).1).trans h.L, (hb.block D (Array.getElem?_eq_some_iff.1 h.K).1).trans h.K, h.below.trans (hb.mono h.below.size)⟩
theorem cells_three (w : World) (x y z : Value) (t : TypeId) : ∀ j u, [x, y, z][j]? = some u → (w.alloc (.cells #[x, y, z] t)).cell? ((⟨w.heap.size, 0, none⟩ : Addr).add j) = some u := by
  intro j u hj
  match j, hj with
  | 0, hj => simp at hj; subst hj; simp [Addr.add]
  | 1, hj => simp at hj; subst hj; simp [Addr.add]
  | 2, hj => simp at hj; subst hj; simp [Addr.add]
theorem ownsRow_ne {W : World} {base : Nat} {e : TypeId} {size : Nat} {v : Value} {k : Nat} {xs : List Value} (h : W.ownsRow base e size v k xs) {j : Nat} {o : Obj} (hj : W.heap[j]? = some o) (hno : ∀ cur, o ≠ .cells cur e (0, 0)) :
    v.ownBlock = none ∨ v.ownBlock ≠ some j := by
  rcases h.2 with ⟨rfl, _⟩ | ⟨g, cap, cur, rfl, _, hgb, _⟩
  · exact .inl rfl
  · refine .inr fun e' => ?_
    have : g = j := by simpa [Value.ownBlock] using e'
    subst this; rw [hgb] at hj; cases hj; exact hno cur rfl
theorem info30 : (Tryz.prog.info? 31).map (fun i => (i.zero, i.size, i.bytes)) = some (some (.agg #[.int .i64 0, .int .i64 0, .int .i64 0]), 3, 24) := by kernel_rfl
set_option maxHeartbeats 2000000 in
theorem apYield (F : Fence) (m : Nat) (w0 : World) (fn : FuncId) (hfn : F.fn fn) (sv : Value) (Bs l D : Nat) (hBl : Bs ≠ l) (hDl : D ≠ l) (hDB : D ≠ Bs) (h0B : w0.heap.size ≤ Bs) (h0l : w0.heap.size ≤ l) (x y z : Int) (W : World) (h : At0 w0 fn sv Bs l D W) :
    YieldAt F m Tryz.prog l #[encK x y z] W fun e W' => e = .returned (.bool true) ∧ At1 w0 fn sv Bs l D x y z W' ∧ KeepsWalks W W' := by
  obtain ⟨i0, hi, hz0, hz1, hz2⟩ := info_parts info30
  have hv := h.box
  refine ⟨fn, #[.slice none 0 0, sv, .pointer (some ⟨Bs, 0, none⟩), undef, .slice none 0 0, undef, sv, encK x y z, undef, undef, undef, undef, undef], apAssign, apBody, by simpa [apRec] using run_yield (P := Tryz.prog) (args := #[encK x y z]) h.L rfl, roundIn_of_wpIn hfn ?_⟩
  unfold apAssign encK
  gi_wp2_with (rw [Oper.semAt_eq _ _ _ (fun c h => by cases h)]; go_simp; try go_bits)
  have hBl0 : Bs < W.heap.size := (Array.getElem?_eq_some_iff.1 hv).1
  have hl0 : l < W.heap.size := (Array.getElem?_eq_some_iff.1 h.L).1
  have hD0 : D < W.heap.size := (Array.getElem?_eq_some_iff.1 h.K).1
  have hc : ∀ j u, [Value.int .i64 x, .int .i64 y, .int .i64 z][j]? = some u → (W.alloc (.cells #[.int .i64 x, .int .i64 y, .int .i64 z] 31)).cell? ((⟨W.heap.size, 0, none⟩ : Addr).add j) = some u := cells_three _ _ _ _ _
  obtain ⟨Wa, hWa⟩ : ∃ Wa, W.alloc (.cells #[.int .i64 x, .int .i64 y, .int .i64 z] 31) = Wa := ⟨_, rfl⟩
  rw [hWa] at hc ⊢
  have hA : Wa.heap[W.heap.size]? = some (.cells #[.int .i64 x, .int .i64 y, .int .i64 z] 31 (0, 0)) := by rw [← hWa]; exact World.alloc_heap_new W _
  have hLa : Wa.heap[l]? = some (.loop (apRec fn sv Bs D .ready none)) := by rw [← hWa]; exact (Below.heap_alloc _ _ l hl0).trans h.L
  have hva : Wa.heap[Bs]? = some (.cells #[.slice none 0 0] 53 (0, 0)) := by rw [← hWa]; exact (Below.heap_alloc _ _ Bs hBl0).trans hv
  have hKa : Wa.heap[D]? = some (.deferred (some [])) := by rw [← hWa]; exact (Below.heap_alloc _ _ D hD0).trans h.K
  have hba : Below w0.heap.size w0 Wa := by rw [← hWa]; exact h.below.alloc h.below.size _
  have hka : KeepsWalks W Wa := by rw [← hWa]; exact KeepsWalks.alloc _ _
  clear hWa
  have hbr := run_beginRound (P := Tryz.prog) hLa rfl
  obtain ⟨W2, hW2⟩ : ∃ W2, Wa.putObj l (.loop { apRec fn sv Bs D .ready none with state := .busy }) = W2 := ⟨_, rfl⟩
  rw [hW2] at hbr
  have hla : l < Wa.heap.size := (Array.getElem?_eq_some_iff.1 hLa).1
  have hAl : W.heap.size ≠ l := by omega
  have hk2 : KeepsWalks W W2 := hka.trans (by rw [← hW2]; exact KeepsWalks.putObj _ hLa rfl)
  have hg2 : Wa.grownBy W2 (some l) := by rw [← hW2]; exact grownBy_putObj _ _ _
  have hv2 : W2.heap[Bs]? = some (.cells #[.slice none 0 0] 53 (0, 0)) := by rw [← hW2]; exact (World.putObj_heap_other hBl).trans hva
  have hA2 : W2.heap[W.heap.size]? = some (.cells #[.int .i64 x, .int .i64 y, .int .i64 z] 31 (0, 0)) := by rw [← hW2]; exact (World.putObj_heap_other hAl).trans hA
  have hK2 : W2.heap[D]? = some (.deferred (some [])) := by rw [← hW2]; exact (World.putObj_heap_other hDl).trans hKa
  have hL2 : W2.heap[l]? = some (.loop { apRec fn sv Bs D .ready none with state := .busy }) := by rw [← hW2]; exact World.putObj_heap_same hla
  have hb2 : Below w0.heap.size w0 W2 := hba.grown hg2 hba.size (fun k e => by cases e; exact h0l)
  clear hW2
  have hBlt : Bs < W2.heap.size := (Array.getElem?_eq_some_iff.1 hv2).1
  have hl2 : l < W2.heap.size := (Array.getElem?_eq_some_iff.1 hL2).1
  have hDlt : D < W2.heap.size := (Array.getElem?_eq_some_iff.1 hK2).1
  obtain ⟨hc2, hf2⟩ := cell_of_box hv2
  have c0 : W2.cell? ⟨W.heap.size, 0, none⟩ = some (.int .i64 x) := by simp [World.cell?, hA2]
  have c1 : W2.cell? ⟨W.heap.size, 1, none⟩ = some (.int .i64 y) := by simp [World.cell?, hA2]
  have c2 : W2.cell? ⟨W.heap.size, 2, none⟩ = some (.int .i64 z) := by simp [World.cell?, hA2]
  refine ⟨W2, hbr, ?_⟩
  unfold apBody
  gi_wp2_with (first
    | (gi_at_builtin; refine wpListIn_append_own _ rfl _ _ 53 rfl w0.heap.size 31 i0 (.agg #[.int .i64 0, .int .i64 0, .int .i64 0]) 3 24 Tryz.underlying53 hi hz0 hz1 hz2 rfl (by decide) (.slice none 0 0) 0 [] rfl (World.ownsRow_nil _ _ _ _) ⟨W2.heap.size, 0, none⟩ 1 1 [.int .i64 x, .int .i64 y, .int .i64 z] rfl rfl (cells_three _ _ _ _ _) (by simp [Value.oneCell']) (by decide) (by decide) (by have := hb2.size; simp; omega) ?_
       intro v' w3 hown' hg3 hnil3
       have hg3' : (W2.alloc (.cells #[.int .i64 x, .int .i64 y, .int .i64 z] 31)).grownBy w3 none := hg3
       have hv3 : w3.heap[Bs]? = some (.cells #[.slice none 0 0] 53 (0, 0)) := (hg3'.block Bs (by simp; omega) (by simp)).trans ((Below.heap_alloc _ _ Bs hBlt).trans hv2)
       obtain ⟨hc3, hf3⟩ := cell_of_box hv3
       obtain ⟨g', cap', cur', rfl, hbase', hgb', hr1, hr2, hr3, hr4⟩ : ∃ g' cap' cur', v' = .slice (some ⟨g', 0, none⟩) 1 cap' ∧ w0.heap.size ≤ g' ∧ w3.heap[g']? = some (.cells cur' 31 (0, 0)) ∧ 1 ≤ cap' ∧ cap' ≤ maxLen ∧ cur'.size = cap' * 3 ∧ cur'.toList.take (1 * 3) = [.int .i64 x, .int .i64 y, .int .i64 z] := by
         rcases hown'.2 with ⟨_, h0⟩ | h'
         · exact absurd h0 (by omega)
         · exact h'
       go_frame)
    | (rw [Oper.semAt_eq _ _ _ (fun c h => by cases h)]; go_simp; try go_bits))
  have hL3 : w3.heap[l]? = some (.loop { apRec fn sv Bs D .ready none with state := .busy }) := (hg3'.block l (by simp; omega) (by simp)).trans ((Below.heap_alloc _ _ l hl2).trans hL2)
  have hK3 : w3.heap[D]? = some (.deferred (some [])) := (hg3'.block D (by simp; omega) (by simp)).trans ((Below.heap_alloc _ _ D hDlt).trans hK2)
  obtain ⟨w4, hw4⟩ : ∃ w4, w3.setCell ⟨Bs, 0, none⟩ (.slice (some ⟨g', 0, none⟩) 1 cap') = w4 := ⟨_, rfl⟩
  rw [hw4]
  have hg4 : w3.grownBy w4 (some Bs) := by rw [← hw4]; exact grownBy_setCell0 _ _ _
  have hv4 : w4.heap[Bs]? = some (.cells #[.slice (some ⟨g', 0, none⟩) 1 cap'] 53 (0, 0)) := by rw [← hw4]; exact heap_setCell_box _ hv3
  have hL4 : w4.heap[l]? = some (.loop { apRec fn sv Bs D .ready none with state := .busy }) := (hg4.block l (Array.getElem?_eq_some_iff.1 hL3).1 (fun e => hBl (by cases e; rfl))).trans hL3
  have hK4 : w4.heap[D]? = some (.deferred (some [])) := (hg4.block D (Array.getElem?_eq_some_iff.1 hK3).1 (fun e => hDB (by cases e; rfl))).trans hK3
  have hrow4 := hown'.kept hg4 (ownsRow_ne hown' hv3 (fun cur e => by cases e))
  have hb3 : Below w0.heap.size w0 w3 := (hb2.alloc hb2.size _).grown hg3' (by have := hb2.size; simp; omega) (fun k e => by cases e)
  have hb4 : Below w0.heap.size w0 w4 := hb3.grown hg4 hb3.size (fun k e => by cases e; exact h0B)
  have hk4 : KeepsWalks W w4 := ((hk2.trans (KeepsWalks.alloc _ _)).trans (KeepsWalks.of_grownBy hg3' (fun j o hj => by cases hj))).trans (by rw [← hw4]; exact KeepsWalks.setCell _ _ _)
  clear hw4
  refine ⟨_, _, run_endRound none hL4, rfl, ⟨⟨_, (World.putObj_heap_other hBl).trans hv4, ?_⟩, World.putObj_heap_same (Array.getElem?_eq_some_iff.1 hL4).1, (World.putObj_heap_other hDl).trans hK4, hb4.grown (grownBy_putObj _ _ _) hb4.size (fun k e => by cases e; exact h0l)⟩, hk4.trans (KeepsWalks.putObj _ hL4 rfl)⟩
  have := hrow4.kept (grownBy_putObj w4 l (.loop { { apRec fn sv Bs D .ready none with state := .busy } with state := if (none : Option Code).isNone then .ready else .done, pending := none })) (ownsRow_ne hrow4 hL4 (fun cur e => by cases e))
  simpa using this
set_option maxHeartbeats 2000000 in
theorem appendSeq_in (F : Fence) (n : Nat) (h11 : F.fn 182) (h10 : F.fn 164) (hro : F.round = none) (hn : 2 ≤ n) (Bm b : Nat) (en : MapEntry) (x y z : Int) (hk : en.key = encK x y z) (h0 : en.born = 0) (w : World)
    (hm : w.cell? ⟨Bm, 0, none⟩ = some (.map (some b))) (hBm : Bm < w.heap.size) (hb : w.heap[b]? = some (.map #[en] 1)) :
    CallsIn F n Tryz.prog 182 #[.slice none 0 0, .func (.func 164) #[] #[.pointer (some ⟨Bm, 0, none⟩)]] w fun e w' => ∃ v : Value, e = .returned v ∧ w'.ownsRow w.heap.size 31 3 v 1 [.int .i64 x, .int .i64 y, .int .i64 z] ∧ Below w.heap.size w w' := by
  have h1 : 1 ≤ n := by omega
  have eg : ∀ args w, (callFunc 164 args).run Tryz.prog w = .ok (.enter 164 args) w := enters_of Tryz.func164 (by kernel_rfl) rfl
  refine callsIn_of_wp_marks Tryz.func182 rfl h11 ?_ hro
  simp only [Tryz.ntmps182, List.size_toArray, List.length_cons, List.length_nil, Nat.reduceAdd, Nat.reduceSub, Array.replicate_succ, Array.replicate_zero, List.push_toArray, List.append_toArray, List.nil_append, List.cons_append]
  gi_wp2
  refine wpIn_rangeFunc ?_
  intro fn hfn
  rw [hro]
  obtain ⟨W0, hW0⟩ : ∃ W0, w.alloc (.cells #[.slice none 0 0] 53) = W0 := ⟨_, rfl⟩
  have hs0 : W0.heap.size = w.heap.size + 1 := by rw [← hW0]; simp
  have hv0 : W0.heap[w.heap.size]? = some (.cells #[.slice none 0 0] 53 (0, 0)) := by rw [← hW0]; exact World.alloc_heap_new w _
  have hb0 : Below w.heap.size w W0 := by rw [← hW0]; exact (Below.refl _ w).alloc (Nat.le_refl _) _
  rw [hW0]
  obtain ⟨W1, hW1⟩ : ∃ W1, (W0.alloc (.deferred (some []))).alloc (.loop (apRec fn (.func (.func 164) #[] #[.pointer (some ⟨Bm, 0, none⟩)]) w.heap.size W0.heap.size .ready none)) = W1 := ⟨_, rfl⟩
  have hold : ∀ k, k < W0.heap.size → W1.heap[k]? = W0.heap[k]? := fun k hk => by
    rw [← hW1]; exact (Below.heap_alloc _ _ k (by simp; omega)).trans (Below.heap_alloc _ _ k hk)
  have hb1 : Below w.heap.size w W1 := by rw [← hW1]; exact (hb0.alloc hb0.size _).alloc (by have := hb0.size; simp; omega) _
  have hs1 : W1.heap.size = W0.heap.size + 2 := by rw [← hW1]; simp
  have hM : At0 w fn (.func (.func 164) #[] #[.pointer (some ⟨Bm, 0, none⟩)]) w.heap.size (W0.heap.size + 1) W0.heap.size W1 :=
    ⟨(hold w.heap.size (by omega)).trans hv0,
     by rw [← hW1]; have := World.alloc_heap_new (W0.alloc (.deferred (some []))) (.loop (apRec fn (.func (.func 164) #[] #[.pointer (some ⟨Bm, 0, none⟩)]) w.heap.size W0.heap.size .ready none)); rwa [World.size_alloc] at this,
     by rw [← hW1]; exact (Below.heap_alloc _ _ _ (by simp)).trans (World.alloc_heap_new W0 _), hb1⟩
  have hbl : b < w.heap.size := (Array.getElem?_eq_some_iff.1 hb).1
  refine ⟨W0.heap.size + 1, [{ target := .collected W0.heap.size, args := #[] }], W1, { target := .fn (.func 164) #[.pointer (some ⟨Bm, 0, none⟩)], args := #[.func (.yield (W0.heap.size + 1)) #[] #[]] }, W1, 164,
    #[.func (.yield (W0.heap.size + 1)) #[] #[]] ++ #[.pointer (some ⟨Bm, 0, none⟩)], W1, ?_, ?_, ?_, ?_, fun _ => h1, ?_⟩
  · rw [← hW1]; exact run_enterLoop_outer _ _ _ _ _
  · simp [resolve, go_sem]
  · intro f' hf'; simp [Target.leads] at hf'; subst hf'; exact h10
  · simp [invoke, go_sem, eg]
  · refine (keys_one F (n - 1) h10 hro (by omega) (W0.heap.size + 1) Bm b en x y z hk h0 W1 (At1 w fn (.func (.func 164) #[] #[.pointer (some ⟨Bm, 0, none⟩)]) w.heap.size (W0.heap.size + 1) W0.heap.size x y z)
      (fun W2 hW2 => apYield F (n - 1 - 1) w fn hfn _ w.heap.size (W0.heap.size + 1) W0.heap.size (by omega) (by omega) (by omega) (Nat.le_refl _) (by omega) x y z W2 (hM.later hW2))
      ((hb1.cell (p := ⟨Bm, 0, none⟩) hBm).trans hm) ((hb1.block b hbl).trans hb)).mono ?_
    rintro e W2 ⟨⟨v0, rfl⟩, h2⟩
    obtain ⟨v, hv, hrow⟩ := h2.box
    have hend := run_endLoop (P := Tryz.prog) h2.L (by simp [apRec])
    obtain ⟨W3, hW3⟩ : ∃ W3, W2.putObj (W0.heap.size + 1) (.loop { apRec fn (.func (.func 164) #[] #[.pointer (some ⟨Bm, 0, none⟩)]) w.heap.size W0.heap.size .ready none with state := .exhausted }) = W3 := ⟨_, rfl⟩
    rw [hW3] at hend
    have hg3 : W2.grownBy W3 (some (W0.heap.size + 1)) := by rw [← hW3]; exact grownBy_putObj _ _ _
    have hv3 : W3.heap[w.heap.size]? = some (.cells #[v] 53 (0, 0)) := by rw [← hW3]; exact (World.putObj_heap_other (by omega)).trans hv
    have hK3 : W3.heap[W0.heap.size]? = some (.deferred (some [])) := by rw [← hW3]; exact (World.putObj_heap_other (by omega)).trans h2.K
    have hrow3 := hrow.kept hg3 (ownsRow_ne hrow h2.L (fun cur e => by cases e))
    have hb3 : Below w.heap.size w W3 := h2.below.grown hg3 h2.below.size (fun k e => by cases e; omega)
    obtain ⟨hc3, hf3⟩ := cell_of_box hv3
    clear hW3
    refine ⟨none, W3, hend, ?_⟩
    gi_wp2
    rw [← hs0]
    refine ⟨by simp, .inl ⟨_, _, rfl, run_takeDeferred hK3, ?_⟩⟩
    exact ⟨_, results_tmp rfl _ _ _, v, rfl, hrow3.kept (grownBy_putObj _ _ _) (ownsRow_ne hrow3 hK3 (fun cur e => by cases e)), hb3.grown (grownBy_putObj _ _ _) hb3.size (fun k e => by cases e; omega)⟩
theorem collect_in (F : Fence) (n : Nat) (h8 : F.fn 162) (h11 : F.fn 182) (h10 : F.fn 164) (hro : F.round = none) (hn : 3 ≤ n) (Bm b : Nat) (en : MapEntry) (x y z : Int) (hk : en.key = encK x y z) (h0 : en.born = 0) (w : World)
    (hm : w.cell? ⟨Bm, 0, none⟩ = some (.map (some b))) (hBm : Bm < w.heap.size) (hb : w.heap[b]? = some (.map #[en] 1)) :
    CallsIn F n Tryz.prog 162 #[.func (.func 164) #[] #[.pointer (some ⟨Bm, 0, none⟩)]] w fun e w' => ∃ v : Value, e = .returned v ∧ w'.ownsRow w.heap.size 31 3 v 1 [.int .i64 x, .int .i64 y, .int .i64 z] ∧ Below w.heap.size w w' := by
  have h1 : 1 ≤ n := by omega
  refine callsIn_of_wp Tryz.func162 rfl h8 ?_ hro
  simp only [Tryz.ntmps162, List.size_toArray, List.length_cons, List.length_nil, Nat.reduceAdd, Nat.reduceSub, Array.replicate_succ, Array.replicate_zero, List.push_toArray, List.append_toArray, List.nil_append, List.cons_append]
  gi_wp2_with (gi_at_call 182; refine (appendSeq_in F (n - 1) h11 h10 hro (by omega) Bm b en x y z hk h0 _ hm hBm hb).mono ?_; rintro e w' ⟨v, rfl, hrow, hb⟩)
  go_ret
  exact ⟨v, rfl, hrow, hb⟩
theorem collect_hit (Bm b : Nat) (en : MapEntry) (x y z : Int) (w : World) (hm : w.cell? ⟨Bm, 0, none⟩ = some (.map (some b))) (hb : w.heap[b]? = some (.map #[en] 1)) (h0 : en.born = 0) (hk : en.key = .agg #[.int .i64 x, .int .i64 y, .int .i64 z]) :
    Calls Tryz.prog 162 #[.func (.func 164) #[] #[.pointer (some ⟨Bm, 0, none⟩)]] w fun e w' => ∃ gb cap cur, e = .returned (.slice (some ⟨gb, 0, none⟩) 1 cap) ∧ w.heap.size ≤ gb ∧ w'.heap[gb]? = some (.cells cur 31 (0, 0)) ∧ 1 ≤ cap ∧ cur.size = cap * 3 ∧
      cur.toList.take 3 = [.int .i64 x, .int .i64 y, .int .i64 z] ∧ Below w.heap.size w w' := by
  have hBm : Bm < w.heap.size := by
    unfold World.cell? at hm
    cases hh : w.heap[(⟨Bm, 0, none⟩ : Addr).block]? with
    | none => rw [hh] at hm; cases hm
    | some o => exact (Array.getElem?_eq_some_iff.1 hh).1
  refine (callsIn_wide.1 (collect_in Fence.wide 5 trivial trivial trivial rfl (by decide) Bm b en x y z hk h0 w hm hBm hb)).mono ?_
  rintro e w' ⟨v, rfl, hrow, hB⟩
  rcases hrow.2 with ⟨_, h⟩ | ⟨g, cap, cur, rfl, h1, h2, h3, h4, h5, h6⟩
  · cases h
  · exact ⟨g, cap, cur, rfl, h1, h2, h3, h5, by simpa using h6, hB⟩
end Go.Proofs.YtecimmaoilignaaGreatDoor.A
