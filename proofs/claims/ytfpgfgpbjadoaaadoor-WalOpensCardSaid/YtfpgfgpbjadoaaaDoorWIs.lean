/- errors.Is at nil, at a number, at a fault that holds a number: the kit's walk of the library's own text. -/
import Derived.Test.YtfpgfgpbjadoaaaDoorProg
import Derived.WalkKit
import Derived.LaidEql
import Derived.Stop.Asserts
import Derived.RowKitTokens
import Derived.Lib.IfaceEq
namespace Go.Proofs.YtfpgfgpbjadoaaaDoor.A
set_option linter.unusedVariables false
set_option linter.unusedSimpArgs false
open Go Go.RowKit Go.Extern.Stop Go.Stop Go.Extern Go.Extern.ReflectliteType Go.Extern.Rtype
set_option maxRecDepth 10000
theorem isTypeOf (v : Value) (w : World) : (Extern.ReflectliteType.typeOf #[.iface 24 v]).run Tryd.prog w = .ok (.iface 98 (.agg #[.pointer (some ⟨1, 24, none⟩)])) w := by kernel_rfl
theorem isComparable (w : World) : ((Extern.ReflectliteType.method fun t => do noPackHeld "Comparable" t; (fun a => Value.bool a.comparable) <$> typeInfo t) #[.agg #[.pointer (some ⟨1, 24, none⟩)]]).run Tryd.prog w = .ok (.bool true) w := by kernel_rfl
theorem isMethodComparable (v : Value) (w : World) : (Go.method 242 98 v "Comparable").run Tryd.prog w = .ok (75, v) w := by kernel_rfl
theorem isComp : (Tryd.prog.info? 24).map (·.comparable) = some true := by kernel_rfl
theorem noIsE (v : Value) (xT : TypeId) (w : World) : (Instr.typeAssert (.iface 24 v) xT 100 true).run Tryd.prog w = .ok (.tuple #[.nilIface, .bool false]) w := run_typeAssert_lacksB Tryd.underlying100 (by kernel_rfl) (by kernel_rfl) v xT w
theorem noUnwrapE (v : Value) (xT : TypeId) (w : World) : (Instr.typeAssert (.iface 24 v) xT 103 true).run Tryd.prog w = .ok (.tuple #[.nilIface, .bool false]) w := run_typeAssert_lacksB Tryd.underlying103 (by kernel_rfl) (by kernel_rfl) v xT w
theorem noUnwrapsE (v : Value) (xT : TypeId) (w : World) : (Instr.typeAssert (.iface 24 v) xT 105 true).run Tryd.prog w = .ok (.tuple #[.nilIface, .bool false]) w := run_typeAssert_lacksB Tryd.underlying105 (by kernel_rfl) (by kernel_rfl) v xT w
theorem noIsF (v : Value) (xT : TypeId) (w : World) : (Instr.typeAssert (.iface 51 v) xT 100 true).run Tryd.prog w = .ok (.tuple #[.nilIface, .bool false]) w := run_typeAssert_lacksB Tryd.underlying100 (by kernel_rfl) (by kernel_rfl) v xT w
theorem hasUnwrapF (v : Value) (xT : TypeId) (w : World) : (Instr.typeAssert (.iface 51 v) xT 103 true).run Tryd.prog w = .ok (.tuple #[.iface 51 v, .bool true]) w := run_typeAssert_hasB Tryd.underlying103 (by kernel_rfl) v xT w
theorem isMethodUnwrap (h : Value) (w : World) : (Go.method 242 51 h "Unwrap").run Tryd.prog w = .ok (68, h) w := by kernel_rfl
theorem is_nil (b : Int) (w : World) : Calls Tryd.prog 22 #[.nilIface, .iface 24 (.int .i64 b)] w fun e w' => e = .returned (.bool false) ∧ w' = w := by
  have hnl := run_eql_iface_nil_left (P := Tryd.prog) (w := w) 24 (.int .i64 b) Tryd.underlying48
  go_enter Tryd.func22, Tryd.ntmps22
  go_wp2
  all_goals (go_ret; exact ⟨rfl, rfl⟩)
theorem is_int (a b : Int) (w : World) : Calls Tryd.prog 22 #[.iface 24 (.int .i64 a), .iface 24 (.int .i64 b)] w fun e w' => e = .returned (.bool (a == b)) ∧ w' = w := by
  have h8 := @run_callFunc_extern Tryd.prog 30 _ Extern.ReflectliteType.typeOf Tryd.func30 (by kernel_rfl) (by kernel_rfl) (by kernel_rfl) (by kernel_rfl)
  have h32 := @run_callFunc_extern Tryd.prog 75 _ (Extern.ReflectliteType.method fun t => do noPackHeld "Comparable" t; pure (.bool (← typeInfo t).comparable)) Tryd.func75 (by kernel_rfl) (by kernel_rfl) (by kernel_rfl) (by kernel_rfl)
  have tT := isTypeOf
  have cT := isComparable
  have mR := isMethodComparable
  have nE := noIsE
  have uE := noUnwrapE
  have vE := noUnwrapsE
  have heq := Go.Lib.run_eql_iface_int (P := Tryd.prog) (k := .i64) w a b Tryd.underlying48 isComp Tryd.underlying24
  go_enter Tryd.func22, Tryd.ntmps22
  go_wp2
  refine wp_loop_rounds 1 ?_
  rw [rounds_succ]
  go_wp2
  all_goals (go_ret; refine ⟨?_, rfl⟩; simp_all)
theorem unwrap (bF : Addr) (n : Value) (w : World) (hF : w.cell? bF = some n) (h0 : bF.spot = none) (hoff : bF.off = 0) :
    Calls Tryd.prog 68 #[.pointer (some bF)] w fun e w' => e = .returned n ∧ w' = w := by
  go_enter Tryd.func68, Tryd.ntmps68
  go_wp2
  go_ret
  exact ⟨rfl, rfl⟩
theorem is_flt (bF : Addr) (a b : Int) (w : World) (hF : w.cell? bF = some (.iface 24 (.int .i64 a))) (h0 : bF.spot = none) (hoff : bF.off = 0) :
    Calls Tryd.prog 22 #[.iface 51 (.pointer (some bF)), .iface 24 (.int .i64 b)] w fun e w' => e = .returned (.bool (a == b)) ∧ w' = w := by
  have h8 := @run_callFunc_extern Tryd.prog 30 _ Extern.ReflectliteType.typeOf Tryd.func30 (by kernel_rfl) (by kernel_rfl) (by kernel_rfl) (by kernel_rfl)
  have h32 := @run_callFunc_extern Tryd.prog 75 _ (Extern.ReflectliteType.method fun t => do noPackHeld "Comparable" t; pure (.bool (← typeInfo t).comparable)) Tryd.func75 (by kernel_rfl) (by kernel_rfl) (by kernel_rfl) (by kernel_rfl)
  have tT := isTypeOf
  have cT := isComparable
  have mR := isMethodComparable
  have nE := noIsE
  have uE := noUnwrapE
  have vE := noUnwrapsE
  have nF := noIsF
  have hU := hasUnwrapF
  have mU := isMethodUnwrap
  have un := unwrap bF _ w hF h0 hoff
  have heq := Go.Lib.run_eql_iface_int (P := Tryd.prog) (k := .i64) w a b Tryd.underlying48 isComp Tryd.underlying24
  have hne := run_eql_iface_types (P := Tryd.prog) 51 24 (.pointer (some bF)) (.int .i64 b) Tryd.underlying48 (by decide) w
  go_enter Tryd.func22, Tryd.ntmps22
  go_wp2
  refine wp_loop_rounds 2 ?_
  rw [rounds_succ]
  go_wp2_with (go_at_call 68; refine un.mono ?_; rintro e w' ⟨rfl, rfl⟩)
  rw [rounds_succ]
  go_wp2
  all_goals (go_ret; refine ⟨?_, rfl⟩; simp_all)
end Go.Proofs.YtfpgfgpbjadoaaaDoor.A
