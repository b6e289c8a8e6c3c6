/- errors.Is at nil, at a number, at a fault that holds a number: the kit's walk of the library's own text. -/
import Derived.Test.YtecimmaoilignaaGreatDoorProg
import Derived.WalkKit
import Derived.LaidEql
import Derived.Stop.Asserts
import Derived.RowKitTokens
import Derived.Lib.IfaceEq
namespace Go.Proofs.YtecimmaoilignaaGreatDoor.A
set_option linter.unusedVariables false
set_option linter.unusedSimpArgs false
open Go Go.RowKit Go.Extern.Stop Go.Stop Go.Extern Go.Extern.ReflectliteType Go.Extern.Rtype
set_option maxRecDepth 10000
theorem isTypeOf (v : Value) (w : World) : (Extern.ReflectliteType.typeOf #[.iface 27 v]).run Tryz.prog w = .ok (.iface 199 (.agg #[.pointer (some ⟨9, 27, none⟩)])) w := by kernel_rfl
theorem isComparable (w : World) : ((Extern.ReflectliteType.method fun t => do noPackHeld "Comparable" t; (fun a => Value.bool a.comparable) <$> typeInfo t) #[.agg #[.pointer (some ⟨9, 27, none⟩)]]).run Tryz.prog w = .ok (.bool true) w := by kernel_rfl
theorem isMethodComparable (v : Value) (w : World) : (Go.method 478 199 v "Comparable").run Tryz.prog w = .ok (282, v) w := by kernel_rfl
theorem isComp : (Tryz.prog.info? 27).map (·.comparable) = some true := by kernel_rfl
theorem noIsE (v : Value) (xT : TypeId) (w : World) : (Instr.typeAssert (.iface 27 v) xT 211 true).run Tryz.prog w = .ok (.tuple #[.nilIface, .bool false]) w := run_typeAssert_lacksB Tryz.underlying211 (by kernel_rfl) (by kernel_rfl) v xT w
theorem noUnwrapE (v : Value) (xT : TypeId) (w : World) : (Instr.typeAssert (.iface 27 v) xT 206 true).run Tryz.prog w = .ok (.tuple #[.nilIface, .bool false]) w := run_typeAssert_lacksB Tryz.underlying206 (by kernel_rfl) (by kernel_rfl) v xT w
theorem noUnwrapsE (v : Value) (xT : TypeId) (w : World) : (Instr.typeAssert (.iface 27 v) xT 208 true).run Tryz.prog w = .ok (.tuple #[.nilIface, .bool false]) w := run_typeAssert_lacksB Tryz.underlying208 (by kernel_rfl) (by kernel_rfl) v xT w
theorem noIsF (v : Value) (xT : TypeId) (w : World) : (Instr.typeAssert (.iface 79 v) xT 211 true).run Tryz.prog w = .ok (.tuple #[.nilIface, .bool false]) w := run_typeAssert_lacksB Tryz.underlying211 (by kernel_rfl) (by kernel_rfl) v xT w
theorem hasUnwrapF (v : Value) (xT : TypeId) (w : World) : (Instr.typeAssert (.iface 79 v) xT 206 true).run Tryz.prog w = .ok (.tuple #[.iface 79 v, .bool true]) w := run_typeAssert_hasB Tryz.underlying206 (by kernel_rfl) v xT w
theorem isMethodUnwrap (h : Value) (w : World) : (Go.method 478 79 h "Unwrap").run Tryz.prog w = .ok (275, h) w := by kernel_rfl
theorem is_nil (b : Int) (w : World) : Calls Tryz.prog 31 #[.nilIface, .iface 27 (.int .i64 b)] w fun e w' => e = .returned (.bool false) ∧ w' = w := by
  have hnl := run_eql_iface_nil_left (P := Tryz.prog) (w := w) 27 (.int .i64 b) Tryz.underlying76
  go_enter Tryz.func31, Tryz.ntmps31
  go_wp2
  all_goals (go_ret; exact ⟨rfl, rfl⟩)
theorem is_int (a b : Int) (w : World) : Calls Tryz.prog 31 #[.iface 27 (.int .i64 a), .iface 27 (.int .i64 b)] w fun e w' => e = .returned (.bool (a == b)) ∧ w' = w := by
  have h8 := @run_callFunc_extern Tryz.prog 71 _ Extern.ReflectliteType.typeOf Tryz.func71 (by kernel_rfl) (by kernel_rfl) (by kernel_rfl) (by kernel_rfl)
  have h32 := @run_callFunc_extern Tryz.prog 282 _ (Extern.ReflectliteType.method fun t => do noPackHeld "Comparable" t; pure (.bool (← typeInfo t).comparable)) Tryz.func282 (by kernel_rfl) (by kernel_rfl) (by kernel_rfl) (by kernel_rfl)
  have tT := isTypeOf
  have cT := isComparable
  have mR := isMethodComparable
  have nE := noIsE
  have uE := noUnwrapE
  have vE := noUnwrapsE
  have heq := Go.Lib.run_eql_iface_int (P := Tryz.prog) (k := .i64) w a b Tryz.underlying76 isComp Tryz.underlying27
  go_enter Tryz.func31, Tryz.ntmps31
  go_wp2
  refine wp_loop_rounds 1 ?_
  rw [rounds_succ]
  go_wp2
  all_goals (go_ret; refine ⟨?_, rfl⟩; simp_all)
theorem unwrap (bF : Addr) (n : Value) (w : World) (hF : w.cell? bF = some n) (h0 : bF.spot = none) (hoff : bF.off = 0) :
    Calls Tryz.prog 275 #[.pointer (some bF)] w fun e w' => e = .returned n ∧ w' = w := by
  go_enter Tryz.func275, Tryz.ntmps275
  go_wp2
  go_ret
  exact ⟨rfl, rfl⟩
theorem is_flt (bF : Addr) (a b : Int) (w : World) (hF : w.cell? bF = some (.iface 27 (.int .i64 a))) (h0 : bF.spot = none) (hoff : bF.off = 0) :
    Calls Tryz.prog 31 #[.iface 79 (.pointer (some bF)), .iface 27 (.int .i64 b)] w fun e w' => e = .returned (.bool (a == b)) ∧ w' = w := by
  have h8 := @run_callFunc_extern Tryz.prog 71 _ Extern.ReflectliteType.typeOf Tryz.func71 (by kernel_rfl) (by kernel_rfl) (by kernel_rfl) (by kernel_rfl)
  have h32 := @run_callFunc_extern Tryz.prog 282 _ (Extern.ReflectliteType.method fun t => do noPackHeld "Comparable" t; pure (.bool (← typeInfo t).comparable)) Tryz.func282 (by kernel_rfl) (by kernel_rfl) (by kernel_rfl) (by kernel_rfl)
  have tT := isTypeOf
  have cT := isComparable
  have mR := isMethodComparable
  have nE := noIsE
  have uE := noUnwrapE
  have vE := noUnwrapsE
  have nF := noIsF
  have hU := hasUnwrapF
  have mU := isMethodUnwrap
  have un := unwrap bF _ w hF h0 hoff
  have heq := Go.Lib.run_eql_iface_int (P := Tryz.prog) (k := .i64) w a b Tryz.underlying76 isComp Tryz.underlying27
  have hne := run_eql_iface_types (P := Tryz.prog) 79 27 (.pointer (some bF)) (.int .i64 b) Tryz.underlying76 (by decide) w
  go_enter Tryz.func31, Tryz.ntmps31
  go_wp2
  refine wp_loop_rounds 2 ?_
  rw [rounds_succ]
  go_wp2_with (go_at_call 275; refine un.mono ?_; rintro e w' ⟨rfl, rfl⟩)
  rw [rounds_succ]
  go_wp2
  all_goals (go_ret; refine ⟨?_, rfl⟩; simp_all)
end Go.Proofs.YtecimmaoilignaaGreatDoor.A
