/- errors.As at a fault that holds a number: the walk. -/
import Derived.Test.YtbinlabnilidiaaDoorMsAs
namespace Go.Proofs.YtbinlabnilidiaaDoor.A
set_option linter.unusedVariables false
set_option linter.unusedSimpArgs false
open Go Go.RowKit Go.Extern.Stop Go.Stop Go.Extern

theorem lt_of_cell {w : World} {a : Addr} {v : Value} (h : w.cell? a = some v) : a.block < w.heap.size := by
 rcases Nat.lt_or_ge a.block w.heap.size with h' | h'
 ·exact h'
 ·simp [World.cell?, Array.getElem?_eq_none h'] at h

def w1 (t : Addr) (w : World) : World := w.alloc (.cells #[.pointer (some t)] 56)
def w2 (t : Addr) (w : World) : World := (w1 t w).alloc (.cells #[.pointer (some ⟨2, 56, none⟩), .pointer (some ⟨w.heap.size, 0, none⟩), .int .u64 150] 87)
def w3 (t : Addr) (w : World) : World := (w2 t w).alloc (.cells #[.pointer (some ⟨2, 56, none⟩), .pointer (some ⟨w.heap.size, 0, none⟩), .int .u64 150] 87)
def w4 (t : Addr) (n : Int) (w : World) : World := (w3 t w).alloc (.cells #[.int .i64 n] 32)

set_option maxHeartbeats 16000000 in
theorem as_hit (bF t : Addr) (n : Int) (old : Value) (w : World) (hg : w.cell? ⟨0, 0, none⟩ = some (.iface 119 (.agg #[.pointer (some ⟨2, 52, none⟩)]))) (hF : w.cell? bF = some (.iface 32 (.int .i64 n))) (hF0 : bF.spot = none) (hFo : bF.off = 0)
  (ht0 : w.cell? t = some old) (hf0 : w.frozen? t = false) :
  Calls Tryd.prog 19 #[.iface 80 (.pointer (some bF)), .iface 56 (.pointer (some t))] w fun ev w' => ev = .returned (.bool true) ∧ w' = (w4 t n w).setCell t (.int .i64 n) := by
 have h74 := @run_callFunc_extern Tryd.prog 41 _ (fun args => ReflectliteValue.unpack (args.getD 0 (.tuple #[]))) Tryd.func41 (by kernel_rfl) (by kernel_rfl) (by kernel_rfl) (by kernel_rfl)
 have h75 := @run_callFunc_extern Tryd.prog 42 _ (ReflectliteValue.methodAny (ReflectliteValue.valueError "reflectlite.Value.Type" 0) (fun t _ _ _ => ReflectliteType.toType t)) Tryd.func42 (by kernel_rfl) (by kernel_rfl) (by kernel_rfl) (by kernel_rfl)
 have h76 := @run_callFunc_extern Tryd.prog 43 _ (ReflectliteValue.method (ReflectliteValue.valueError "reflectlite.Value.IsNil" 0) ReflectliteValue.isNil) Tryd.func43 (by kernel_rfl) (by kernel_rfl) (by kernel_rfl) (by kernel_rfl)
 have h132 := @run_callFunc_extern Tryd.prog 98 _ (ReflectliteType.abiMethod fun t => do pure (.int .u8 (← Rtype.kind t))) Tryd.func98 (by kernel_rfl) (by kernel_rfl) (by kernel_rfl) (by kernel_rfl)
 have h144 := @run_callFunc_extern Tryd.prog 110 _ (ReflectliteType.method ReflectliteType.elem) Tryd.func110 (by kernel_rfl) (by kernel_rfl) (by kernel_rfl) (by kernel_rfl)
 have h145 := @run_callFunc_extern Tryd.prog 111 _ (ReflectliteType.relation "Implements" ReflectliteType.implements_) Tryd.func111 (by kernel_rfl) (by kernel_rfl) (by kernel_rfl) (by kernel_rfl)
 have h101 := @run_callFunc_extern Tryd.prog 62 _ ReflectliteType.typeOf Tryd.func62 (by kernel_rfl) (by kernel_rfl) (by kernel_rfl) (by kernel_rfl)
 have h142 := @run_callFunc_extern Tryd.prog 108 _ (ReflectliteType.relation "AssignableTo" ReflectliteType.assignableTo) Tryd.func108 (by kernel_rfl) (by kernel_rfl) (by kernel_rfl) (by kernel_rfl)
 have h102 := @run_callFunc_extern Tryd.prog 63 _ (ReflectliteValue.method (ReflectliteValue.valueError "reflectlite.Value.Elem" 0) ReflectliteValue.elem) Tryd.func63 (by kernel_rfl) (by kernel_rfl) (by kernel_rfl) (by kernel_rfl)
 have h103 := @run_callFunc_extern Tryd.prog 64 _ ReflectliteValue.set Tryd.func64 (by kernel_rfl) (by kernel_rfl) (by kernel_rfl) (by kernel_rfl)
 have tF := typeOfF
 have tE := typeOfE
 have mA := mAssignableTo
 have aF := asgF
 have aE := asgE
 have vE := valueOfE
 have vT := valueOfT
 have yT := typeT
 have mK := mKind
 have mE := mElem
 have mI := mImplements
 have mU := mUnwrap
 have kT := kindT
 have kE := kindE
 have eT := elemT
 have iE := implE
 have nA := noAs
 have hU := hasUnwrap
 have hlt : 0 < w.heap.size := lt_of_cell hg
 have htl := lt_of_cell ht0
 have hFl := lt_of_cell hF
 have n8 := isNilT ⟨w.heap.size, 0, none⟩ t (w2 t w) (by simp [w2, w1])
 have hg2 : (w2 t w).cell? ⟨0, 0, none⟩ = some (.iface 119 (.agg #[.pointer (some ⟨2, 52, none⟩)])) := by
  unfold w2 w1
  rw [World.cell?_alloc_lt _ _ ⟨0, 0, none⟩ (by simp), World.cell?_alloc_lt _ _ ⟨0, 0, none⟩ hlt]; exact hg
 have hF3 : (w3 t w).cell? bF = some (.iface 32 (.int .i64 n)) := by
  unfold w3 w2 w1
  rw [World.cell?_alloc_lt _ _ bF (by simp; omega), World.cell?_alloc_lt _ _ bF (by simp; omega), World.cell?_alloc_lt _ _ bF hFl]; exact hF
 have el := elemV ⟨w.heap.size, 0, none⟩ t (w3 t w) (by unfold w3 w2 w1; rw [World.cell?_alloc_lt _ _ ⟨w.heap.size, 0, none⟩ (by simp; omega), World.cell?_alloc_lt _ _ ⟨w.heap.size, 0, none⟩ (by simp)]; simp)
 have st := setE t ⟨w.heap.size + 1 + 1 + 1, 0, none⟩ n old (w4 t n w)
  (by unfold w4; rw [World.cell?_alloc_at _ _ _ _ (by simp [w3, w2, w1])]; rfl)
  (by unfold w4 w3 w2 w1; rw [World.cell?_alloc_lt _ _ t (by simp; omega), World.cell?_alloc_lt _ _ t (by simp; omega), World.cell?_alloc_lt _ _ t (by simp; omega), World.cell?_alloc_lt _ _ t htl]; exact ht0)
  (by unfold w4 w3 w2 w1; rw [World.frozen?_alloc_old _ _ t (by simp; omega), World.frozen?_alloc_old _ _ t (by simp; omega), World.frozen?_alloc_old _ _ t (by simp; omega), World.frozen?_alloc_old _ _ t (Nat.ne_of_lt htl)]; exact hf0)
 have un := unwrap bF (.iface 32 (.int .i64 n)) (w3 t w) hF3 hF0 hFo
 unfold w4 w3 w2 w1 at *
 go_enter Tryd.func19, Tryd.ntmps19
 go_wp2
 refine wp_loop_rounds 2 ?_
 rw [rounds_succ]
 go_wp2_with (go_at_call 103; refine un.mono ?_; rintro e w' ⟨rfl, rfl⟩)
 rw [rounds_succ]
 go_wp2
 go_ret
 exact ⟨rfl, rfl⟩
end Go.Proofs.YtbinlabnilidiaaDoor.A
