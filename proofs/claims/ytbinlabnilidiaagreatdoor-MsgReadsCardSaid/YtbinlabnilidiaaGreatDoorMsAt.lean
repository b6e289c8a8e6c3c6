/- errors.As at a fault that holds a number: the walk. -/
import Derived.Test.YtbinlabnilidiaaGreatDoorMsAs
namespace Go.Proofs.YtbinlabnilidiaaGreatDoor.A
set_option linter.unusedVariables false
set_option linter.unusedSimpArgs false
open Go Go.RowKit Go.Extern.Stop Go.Stop Go.Extern
theorem XeX {w : World} {a : Addr} {v : Value} (h : w.cell? a = some v) : a.block < w.heap.size := by
 rcases Nat.lt_or_ge a.block w.heap.size with h' | h'
 ·exact h'
 ·simp [World.cell?, Array.getElem?_eq_none h'] at h
def w1 (t : Addr) (w : World) : World := w.alloc (.cells #[.pointer (some t)] 77)
def w2 (t : Addr) (w : World) : World := (w1 t w).alloc (.cells #[.pointer (some ⟨2, 77, none⟩), .pointer (some ⟨w.heap.size, 0, none⟩), .int .u64 150] 103)
def w3 (t : Addr) (w : World) : World := (w2 t w).alloc (.cells #[.pointer (some ⟨2, 77, none⟩), .pointer (some ⟨w.heap.size, 0, none⟩), .int .u64 150] 103)
def w4 (t : Addr) (n : Int) (w : World) : World := (w3 t w).alloc (.cells #[.int .i64 n] 31)
set_option maxHeartbeats 16000000 in
theorem as_hit (bF t : Addr) (n : Int) (old : Value) (w : World) (hg : w.cell? ⟨0, 0, none⟩ = some (.iface 134 (.agg #[.pointer (some ⟨2, 73, none⟩)]))) (hF : w.cell? bF = some (.iface 31 (.int .i64 n))) (hF0 : bF.spot = none) (hFo : bF.off = 0)
  (ht0 : w.cell? t = some old) (hf0 : w.frozen? t = false) :
  Calls Tryz.prog 46 #[.iface 96 (.pointer (some bF)), .iface 77 (.pointer (some t))] w fun ev w' => ev = .returned (.bool true) ∧ w' = (w4 t n w).setCell t (.int .i64 n) := by
 have h74 := @run_callFunc_extern Tryz.prog 74 _ (fun args => ReflectliteValue.unpack (args.getD 0 (.tuple #[]))) Tryz.func74 (by kernel_rfl) (by kernel_rfl) (by kernel_rfl) (by kernel_rfl)
 have h75 := @run_callFunc_extern Tryz.prog 75 _ (ReflectliteValue.methodAny (ReflectliteValue.valueError "reflectlite.Value.Type" 0) (fun t _ _ _ => ReflectliteType.toType t)) Tryz.func75 (by kernel_rfl) (by kernel_rfl) (by kernel_rfl) (by kernel_rfl)
 have h76 := @run_callFunc_extern Tryz.prog 76 _ (ReflectliteValue.method (ReflectliteValue.valueError "reflectlite.Value.IsNil" 0) ReflectliteValue.isNil) Tryz.func76 (by kernel_rfl) (by kernel_rfl) (by kernel_rfl) (by kernel_rfl)
 have h132 := @run_callFunc_extern Tryz.prog 132 _ (ReflectliteType.abiMethod fun t => do pure (.int .u8 (← Rtype.kind t))) Tryz.func132 (by kernel_rfl) (by kernel_rfl) (by kernel_rfl) (by kernel_rfl)
 have h144 := @run_callFunc_extern Tryz.prog 144 _ (ReflectliteType.method ReflectliteType.elem) Tryz.func144 (by kernel_rfl) (by kernel_rfl) (by kernel_rfl) (by kernel_rfl)
 have h145 := @run_callFunc_extern Tryz.prog 145 _ (ReflectliteType.relation "Implements" ReflectliteType.implements_) Tryz.func145 (by kernel_rfl) (by kernel_rfl) (by kernel_rfl) (by kernel_rfl)
 have h101 := @run_callFunc_extern Tryz.prog 101 _ ReflectliteType.typeOf Tryz.func101 (by kernel_rfl) (by kernel_rfl) (by kernel_rfl) (by kernel_rfl)
 have h142 := @run_callFunc_extern Tryz.prog 142 _ (ReflectliteType.relation "AssignableTo" ReflectliteType.assignableTo) Tryz.func142 (by kernel_rfl) (by kernel_rfl) (by kernel_rfl) (by kernel_rfl)
 have h102 := @run_callFunc_extern Tryz.prog 102 _ (ReflectliteValue.method (ReflectliteValue.valueError "reflectlite.Value.Elem" 0) ReflectliteValue.elem) Tryz.func102 (by kernel_rfl) (by kernel_rfl) (by kernel_rfl) (by kernel_rfl)
 have h103 := @run_callFunc_extern Tryz.prog 103 _ ReflectliteValue.set Tryz.func103 (by kernel_rfl) (by kernel_rfl) (by kernel_rfl) (by kernel_rfl)
 have tF := Xo4
 have tE := Xo5
 have mA := XhB
 have aF := asgF
 have aE := asgE
 have vE := Xmd
 have vT := Xmc
 have yT := Xwr
 have mK := Xws
 have mE := Xwt
 have mI := Xje
 have mU := Xo3
 have kT := Xwu
 have kE := Xwv
 have eT := Xww
 have iE := Xwx
 have nA := noAs
 have hU := Xlk
 have hlt : 0 < w.heap.size := XeX hg
 have htl := XeX ht0
 have hFl := XeX hF
 have n8 := Xtq ⟨w.heap.size, 0, none⟩ t (w2 t w) (by simp [w2, w1])
 have hg2 : (w2 t w).cell? ⟨0, 0, none⟩ = some (.iface 134 (.agg #[.pointer (some ⟨2, 73, none⟩)])) := by
  unfold w2 w1
  rw [World.cell?_alloc_lt _ _ ⟨0, 0, none⟩ (by simp), World.cell?_alloc_lt _ _ ⟨0, 0, none⟩ hlt]; exact hg
 have hF3 : (w3 t w).cell? bF = some (.iface 31 (.int .i64 n)) := by
  unfold w3 w2 w1
  rw [World.cell?_alloc_lt _ _ bF (by simp; omega), World.cell?_alloc_lt _ _ bF (by simp; omega), World.cell?_alloc_lt _ _ bF hFl]; exact hF
 have el := Xwy ⟨w.heap.size, 0, none⟩ t (w3 t w) (by unfold w3 w2 w1; rw [World.cell?_alloc_lt _ _ ⟨w.heap.size, 0, none⟩ (by simp; omega), World.cell?_alloc_lt _ _ ⟨w.heap.size, 0, none⟩ (by simp)]; simp)
 have st := setE t ⟨w.heap.size + 1 + 1 + 1, 0, none⟩ n old (w4 t n w)
  (by unfold w4; rw [World.cell?_alloc_at _ _ _ _ (by simp [w3, w2, w1])]; rfl)
  (by unfold w4 w3 w2 w1; rw [World.cell?_alloc_lt _ _ t (by simp; omega), World.cell?_alloc_lt _ _ t (by simp; omega), World.cell?_alloc_lt _ _ t (by simp; omega), World.cell?_alloc_lt _ _ t htl]; exact ht0)
  (by unfold w4 w3 w2 w1; rw [World.frozen?_alloc_old _ _ t (by simp; omega), World.frozen?_alloc_old _ _ t (by simp; omega), World.frozen?_alloc_old _ _ t (by simp; omega), World.frozen?_alloc_old _ _ t (Nat.ne_of_lt htl)]; exact hf0)
 have un := Xts bF (.iface 31 (.int .i64 n)) (w3 t w) hF3 hF0 hFo
 unfold w4 w3 w2 w1 at *
 go_enter Tryz.func46, Tryz.ntmps46
 go_wp2
 refine wp_loop_rounds 2 ?_
 rw [rounds_succ]
 go_wp2_with (go_at_call 137; refine un.mono ?_; rintro e w' ⟨rfl, rfl⟩)
 rw [rounds_succ]
 go_wp2
 go_ret
 exact ⟨rfl, rfl⟩
end Go.Proofs.YtbinlabnilidiaaGreatDoor.A
