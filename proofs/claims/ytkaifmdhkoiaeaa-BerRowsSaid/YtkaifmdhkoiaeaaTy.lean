/- The types, as the abstract machine has them (made by a program of mine, gen.py). -/
import Derived.Test.YtkaifmdhkoiaeaaPam15
import Derived.Test.YtkaifmdhkoiaeaaProg
namespace Go.Proofs.Ytkaifmdhkoiaeaa.M
open Go Go.Pam

def ty2 : TyI := { und := (.int .i64), size := 1, bytes := 8, zero := (.int .i64 0), eqok := false, comp := true, methods := [] }
theorem tyOk2 : TyOk Try.prog 2 ty2 := TyOk.mk2 (z := (.int .i64 0)) (ms := #[]) (by kernel_rfl) (by kernel_rfl) (by rfl) (by rfl) (fun h => by cases h) rfl
def ty3 : TyI := { und := (.int .i64), size := 1, bytes := 8, zero := (.int .i64 0), eqok := false, comp := true, methods := [] }
theorem tyOk3 : TyOk Try.prog 3 ty3 := TyOk.mk2 (z := (.int .i64 0)) (ms := #[]) (by kernel_rfl) (by kernel_rfl) (by rfl) (by rfl) (fun h => by cases h) rfl
def ty4 : TyI := { und := .bool, size := 1, bytes := 1, zero := (.bool false), eqok := false, comp := true, methods := [] }
theorem tyOk4 : TyOk Try.prog 4 ty4 := TyOk.mk2 (z := (.bool false)) (ms := #[]) (by kernel_rfl) (by kernel_rfl) (by rfl) (by rfl) (fun h => by cases h) rfl
def ty5 : TyI := { und := (.int .u8), size := 1, bytes := 1, zero := (.int .u8 0), eqok := false, comp := true, methods := [] }
theorem tyOk5 : TyOk Try.prog 5 ty5 := TyOk.mk2 (z := (.int .u8 0)) (ms := #[]) (by kernel_rfl) (by kernel_rfl) (by rfl) (by rfl) (fun h => by cases h) rfl
def ty6 : TyI := { und := (.int .u8), size := 1, bytes := 1, zero := (.int .u8 0), eqok := false, comp := true, methods := [] }
theorem tyOk6 : TyOk Try.prog 6 ty6 := TyOk.mk2 (z := (.int .u8 0)) (ms := #[]) (by kernel_rfl) (by kernel_rfl) (by rfl) (by rfl) (fun h => by cases h) rfl
def ty7 : TyI := { und := (.struct #[⟨"x", 2, 0, false, "", "runtime", 0⟩, ⟨"y", 3, 1, false, "", "runtime", 8⟩, ⟨"signed", 4, 2, false, "", "runtime", 16⟩, ⟨"code", 6, 3, false, "", "runtime", 17⟩]), size := 4, bytes := 24, zero := (.agg [(.int .i64 0), (.int .i64 0), (.bool false), (.int .u8 0)]), eqok := false, comp := true, methods := [] }
theorem tyOk7 : TyOk Try.prog 7 ty7 := TyOk.mk2 (z := (.agg #[(.int .i64 0), (.int .i64 0), (.bool false), (.int .u8 0)])) (ms := #[]) (by kernel_rfl) (by kernel_rfl) (by rfl) (by rfl) (fun h => by cases h) rfl
def ty8 : TyI := { und := (.struct #[⟨"x", 2, 0, false, "", "runtime", 0⟩, ⟨"y", 3, 1, false, "", "runtime", 8⟩, ⟨"signed", 4, 2, false, "", "runtime", 16⟩, ⟨"code", 6, 3, false, "", "runtime", 17⟩]), size := 4, bytes := 24, zero := (.agg [(.int .i64 0), (.int .i64 0), (.bool false), (.int .u8 0)]), eqok := false, comp := true, methods := [⟨"Error", 65, #[], some (35, false)⟩, ⟨"RuntimeError", 1, #[], some (36, false)⟩] }
theorem tyOk8 : TyOk Try.prog 8 ty8 := TyOk.mk2 (z := (.agg #[(.int .i64 0), (.int .i64 0), (.bool false), (.int .u8 0)])) (ms := #[⟨"Error", 65, #[], some (35, false)⟩, ⟨"RuntimeError", 1, #[], some (36, false)⟩]) (by kernel_rfl) (by kernel_rfl) (by rfl) (by rfl) (fun h => by cases h) rfl
def ty9 : TyI := { und := .string, size := 1, bytes := 16, zero := (.str []), eqok := false, comp := true, methods := [] }
theorem tyOk9 : TyOk Try.prog 9 ty9 := TyOk.mk2 (z := (.string ⟨#[]⟩)) (ms := #[]) (by kernel_rfl) (by kernel_rfl) (by rfl) (by rfl) (fun h => by cases h) rfl
def ty10 : TyI := { und := .string, size := 1, bytes := 16, zero := (.str []), eqok := false, comp := true, methods := [⟨"Error", 65, #[], some (37, false)⟩, ⟨"RuntimeError", 1, #[], some (38, false)⟩] }
theorem tyOk10 : TyOk Try.prog 10 ty10 := TyOk.mk2 (z := (.string ⟨#[]⟩)) (ms := #[⟨"Error", 65, #[], some (37, false)⟩, ⟨"RuntimeError", 1, #[], some (38, false)⟩]) (by kernel_rfl) (by kernel_rfl) (by rfl) (by rfl) (fun h => by cases h) rfl
def ty11 : TyI := { und := .string, size := 1, bytes := 16, zero := (.str []), eqok := false, comp := true, methods := [⟨"Error", 65, #[], some (39, false)⟩, ⟨"RuntimeError", 1, #[], some (40, false)⟩] }
theorem tyOk11 : TyOk Try.prog 11 ty11 := TyOk.mk2 (z := (.string ⟨#[]⟩)) (ms := #[⟨"Error", 65, #[], some (39, false)⟩, ⟨"RuntimeError", 1, #[], some (40, false)⟩]) (by kernel_rfl) (by kernel_rfl) (by rfl) (by rfl) (fun h => by cases h) rfl
def ty12 : TyI := { und := (.int .u64), size := 1, bytes := 8, zero := (.int .u64 0), eqok := false, comp := true, methods := [] }
theorem tyOk12 : TyOk Try.prog 12 ty12 := TyOk.mk2 (z := (.int .u64 0)) (ms := #[]) (by kernel_rfl) (by kernel_rfl) (by rfl) (by rfl) (fun h => by cases h) rfl
def ty13 : TyI := { und := (.struct #[⟨"msg", 9, 0, false, "", "runtime", 0⟩, ⟨"addr", 12, 1, false, "", "runtime", 16⟩]), size := 2, bytes := 24, zero := (.agg [(.str []), (.int .u64 0)]), eqok := false, comp := true, methods := [] }
theorem tyOk13 : TyOk Try.prog 13 ty13 := TyOk.mk2 (z := (.agg #[(.string ⟨#[]⟩), (.int .u64 0)])) (ms := #[]) (by kernel_rfl) (by kernel_rfl) (by rfl) (by rfl) (fun h => by cases h) rfl
def ty14 : TyI := { und := (.struct #[⟨"msg", 9, 0, false, "", "runtime", 0⟩, ⟨"addr", 12, 1, false, "", "runtime", 16⟩]), size := 2, bytes := 24, zero := (.agg [(.str []), (.int .u64 0)]), eqok := false, comp := true, methods := [⟨"Error", 65, #[], some (41, false)⟩, ⟨"RuntimeError", 1, #[], some (42, false)⟩] }
theorem tyOk14 : TyOk Try.prog 14 ty14 := TyOk.mk2 (z := (.agg #[(.string ⟨#[]⟩), (.int .u64 0)])) (ms := #[⟨"Error", 65, #[], some (41, false)⟩, ⟨"RuntimeError", 1, #[], some (42, false)⟩]) (by kernel_rfl) (by kernel_rfl) (by rfl) (by rfl) (fun h => by cases h) rfl
def ty15 : TyI := { und := (.pointer 67), size := 1, bytes := 8, zero := .nilp, eqok := false, comp := true, methods := [⟨"Error", 65, #[], some (43, true)⟩, ⟨"RuntimeError", 1, #[], some (44, true)⟩] }
theorem tyOk15 : TyOk Try.prog 15 ty15 := TyOk.mk2 (z := (.pointer none)) (ms := #[⟨"Error", 65, #[], some (43, true)⟩, ⟨"RuntimeError", 1, #[], some (44, true)⟩]) (by kernel_rfl) (by kernel_rfl) (by rfl) (by rfl) (fun h => by cases h) rfl
def ty16 : TyI := { und := (.pointer 70), size := 1, bytes := 8, zero := .nilp, eqok := false, comp := true, methods := [⟨"Error", 65, #[], some (45, true)⟩, ⟨"RuntimeError", 1, #[], some (46, true)⟩] }
theorem tyOk16 : TyOk Try.prog 16 ty16 := TyOk.mk2 (z := (.pointer none)) (ms := #[⟨"Error", 65, #[], some (45, true)⟩, ⟨"RuntimeError", 1, #[], some (46, true)⟩]) (by kernel_rfl) (by kernel_rfl) (by rfl) (by rfl) (fun h => by cases h) rfl
def ty17 : TyI := { und := (.pointer 80), size := 1, bytes := 8, zero := .nilp, eqok := false, comp := true, methods := [⟨"Align", 71, #[], some (47, true)⟩] }
theorem tyOk17 : TyOk Try.prog 17 ty17 := TyOk.mk2 (z := (.pointer none)) (ms := #[⟨"Align", 71, #[], some (47, true)⟩]) (by kernel_rfl) (by kernel_rfl) (by rfl) (by rfl) (fun h => by cases h) rfl
def ty18 : TyI := { und := (.struct #[⟨"typ", 17, 0, false, "", "internal/runtime/maps", 0⟩]), size := 1, bytes := 8, zero := (.agg [.nilp]), eqok := false, comp := true, methods := [] }
theorem tyOk18 : TyOk Try.prog 18 ty18 := TyOk.mk2 (z := (.agg #[(.pointer none)])) (ms := #[]) (by kernel_rfl) (by kernel_rfl) (by rfl) (by rfl) (fun h => by cases h) rfl
def ty19 : TyI := { und := (.struct #[⟨"typ", 17, 0, false, "", "internal/runtime/maps", 0⟩]), size := 1, bytes := 8, zero := (.agg [.nilp]), eqok := false, comp := true, methods := [⟨"Error", 65, #[], some (48, false)⟩, ⟨"RuntimeError", 1, #[], some (49, false)⟩] }
theorem tyOk19 : TyOk Try.prog 19 ty19 := TyOk.mk2 (z := (.agg #[(.pointer none)])) (ms := #[⟨"Error", 65, #[], some (48, false)⟩, ⟨"RuntimeError", 1, #[], some (49, false)⟩]) (by kernel_rfl) (by kernel_rfl) (by rfl) (by rfl) (fun h => by cases h) rfl
def ty20 : TyI := { und := (.interface #[]), size := 1, bytes := 16, zero := .nili, eqok := false, comp := true, methods := [] }
theorem tyOk20 : TyOk Try.prog 20 ty20 := TyOk.mk2 (z := .nilIface) (ms := #[]) (by kernel_rfl) (by kernel_rfl) (by rfl) (by rfl) (fun h => by cases h) rfl
def ty21 : TyI := { und := (.int .i32), size := 1, bytes := 4, zero := (.int .i32 0), eqok := false, comp := true, methods := [] }
theorem tyOk21 : TyOk Try.prog 21 ty21 := TyOk.mk2 (z := (.int .i32 0)) (ms := #[]) (by kernel_rfl) (by kernel_rfl) (by rfl) (by rfl) (fun h => by cases h) rfl
def ty23 : TyI := { und := (.slice 25), size := 1, bytes := 24, zero := .nils, eqok := false, comp := false, methods := [] }
theorem tyOk23 : TyOk Try.prog 23 ty23 := TyOk.mk2 (z := (.slice none 0 0)) (ms := #[]) (by kernel_rfl) (by kernel_rfl) (by rfl) (by rfl) (fun h => by cases h) rfl
def ty24 : TyI := { und := (.struct #[⟨"Tag", 5, 0, false, "", "", 0⟩, ⟨"Body", 9, 1, false, "", "", 8⟩, ⟨"Kids", 23, 2, false, "", "", 24⟩]), size := 3, bytes := 48, zero := (.agg [(.int .u8 0), (.str []), .nils]), eqok := false, comp := false, methods := [] }
theorem tyOk24 : TyOk Try.prog 24 ty24 := TyOk.mk2 (z := (.agg #[(.int .u8 0), (.string ⟨#[]⟩), (.slice none 0 0)])) (ms := #[]) (by kernel_rfl) (by kernel_rfl) (by rfl) (by rfl) (fun h => by cases h) rfl
def ty25 : TyI := { und := (.struct #[⟨"Tag", 5, 0, false, "", "", 0⟩, ⟨"Body", 9, 1, false, "", "", 8⟩, ⟨"Kids", 23, 2, false, "", "", 24⟩]), size := 3, bytes := 48, zero := (.agg [(.int .u8 0), (.str []), .nils]), eqok := false, comp := false, methods := [] }
theorem tyOk25 : TyOk Try.prog 25 ty25 := TyOk.mk2 (z := (.agg #[(.int .u8 0), (.string ⟨#[]⟩), (.slice none 0 0)])) (ms := #[]) (by kernel_rfl) (by kernel_rfl) (by rfl) (by rfl) (fun h => by cases h) rfl
def ty26 : TyI := { und := (.int .i64), size := 1, bytes := 8, zero := (.int .i64 0), eqok := false, comp := true, methods := [⟨"Error", 65, #[], some (50, false)⟩] }
theorem tyOk26 : TyOk Try.prog 26 ty26 := TyOk.mk2 (z := (.int .i64 0)) (ms := #[⟨"Error", 65, #[], some (50, false)⟩]) (by kernel_rfl) (by kernel_rfl) (by rfl) (by rfl) (fun h => by cases h) rfl
def ty43 : TyI := { und := (.int .u16), size := 1, bytes := 2, zero := (.int .u16 0), eqok := false, comp := true, methods := [] }
theorem tyOk43 : TyOk Try.prog 43 ty43 := TyOk.mk2 (z := (.int .u16 0)) (ms := #[]) (by kernel_rfl) (by kernel_rfl) (by rfl) (by rfl) (fun h => by cases h) rfl
def ty45 : TyI := { und := (.slice 5), size := 1, bytes := 24, zero := .nils, eqok := false, comp := false, methods := [] }
theorem tyOk45 : TyOk Try.prog 45 ty45 := TyOk.mk2 (z := (.slice none 0 0)) (ms := #[]) (by kernel_rfl) (by kernel_rfl) (by rfl) (by rfl) (fun h => by cases h) rfl
def ty46 : TyI := { und := (.int .u64), size := 1, bytes := 8, zero := (.int .u64 0), eqok := false, comp := true, methods := [] }
theorem tyOk46 : TyOk Try.prog 46 ty46 := TyOk.mk2 (z := (.int .u64 0)) (ms := #[]) (by kernel_rfl) (by kernel_rfl) (by rfl) (by rfl) (fun h => by cases h) rfl
def ty51 : TyI := { und := (.slice 9), size := 1, bytes := 24, zero := .nils, eqok := false, comp := false, methods := [] }
theorem tyOk51 : TyOk Try.prog 51 ty51 := TyOk.mk2 (z := (.slice none 0 0)) (ms := #[]) (by kernel_rfl) (by kernel_rfl) (by rfl) (by rfl) (fun h => by cases h) rfl
def ty54 : TyI := { und := (.pointer 56), size := 1, bytes := 8, zero := .nilp, eqok := false, comp := true, methods := [⟨"prefect/ber.read", 58, #[], some (22, true)⟩] }
theorem tyOk54 : TyOk Try.prog 54 ty54 := TyOk.mk2 (z := (.pointer none)) (ms := #[⟨"prefect/ber.read", 58, #[], some (22, true)⟩]) (by kernel_rfl) (by kernel_rfl) (by rfl) (by rfl) (fun h => by cases h) rfl
def ty55 : TyI := { und := (.struct #[⟨"s", 9, 0, false, "", "prefect/ber", 0⟩, ⟨"at", 3, 1, false, "", "prefect/ber", 16⟩]), size := 2, bytes := 24, zero := (.agg [(.str []), (.int .i64 0)]), eqok := false, comp := true, methods := [] }
theorem tyOk55 : TyOk Try.prog 55 ty55 := TyOk.mk2 (z := (.agg #[(.string ⟨#[]⟩), (.int .i64 0)])) (ms := #[]) (by kernel_rfl) (by kernel_rfl) (by rfl) (by rfl) (fun h => by cases h) rfl
def ty56 : TyI := { und := (.struct #[⟨"s", 9, 0, false, "", "prefect/ber", 0⟩, ⟨"at", 3, 1, false, "", "prefect/ber", 16⟩]), size := 2, bytes := 24, zero := (.agg [(.str []), (.int .i64 0)]), eqok := true, comp := true, methods := [] }
theorem tyOk56 : TyOk Try.prog 56 ty56 := TyOk.mk2 (z := (.agg #[(.string ⟨#[]⟩), (.int .i64 0)])) (ms := #[]) (by kernel_rfl) (by kernel_rfl) (by rfl) (by rfl) (fun _ => ⟨by kernel_rfl, by kernel_rfl⟩) rfl
def ty66 : TyI := { und := (.struct #[⟨"_interface", 17, 0, false, "", "runtime", 0⟩, ⟨"concrete", 17, 1, false, "", "runtime", 8⟩, ⟨"asserted", 17, 2, false, "", "runtime", 16⟩, ⟨"missingMethod", 9, 3, false, "", "runtime", 24⟩]), size := 4, bytes := 40, zero := (.agg [.nilp, .nilp, .nilp, (.str [])]), eqok := false, comp := true, methods := [] }
theorem tyOk66 : TyOk Try.prog 66 ty66 := TyOk.mk2 (z := (.agg #[(.pointer none), (.pointer none), (.pointer none), (.string ⟨#[]⟩)])) (ms := #[]) (by kernel_rfl) (by kernel_rfl) (by rfl) (by rfl) (fun h => by cases h) rfl
def ty67 : TyI := { und := (.struct #[⟨"_interface", 17, 0, false, "", "runtime", 0⟩, ⟨"concrete", 17, 1, false, "", "runtime", 8⟩, ⟨"asserted", 17, 2, false, "", "runtime", 16⟩, ⟨"missingMethod", 9, 3, false, "", "runtime", 24⟩]), size := 4, bytes := 40, zero := (.agg [.nilp, .nilp, .nilp, (.str [])]), eqok := false, comp := true, methods := [] }
theorem tyOk67 : TyOk Try.prog 67 ty67 := TyOk.mk2 (z := (.agg #[(.pointer none), (.pointer none), (.pointer none), (.string ⟨#[]⟩)])) (ms := #[]) (by kernel_rfl) (by kernel_rfl) (by rfl) (by rfl) (fun h => by cases h) rfl
def ty68 : TyI := { und := (.array 0 16), size := 0, bytes := 0, zero := (.agg []), eqok := false, comp := true, methods := [] }
theorem tyOk68 : TyOk Try.prog 68 ty68 := TyOk.mk2 (z := (.agg #[])) (ms := #[]) (by kernel_rfl) (by kernel_rfl) (by rfl) (by rfl) (fun h => by cases h) rfl
def ty69 : TyI := { und := (.struct #[⟨"_", 68, 0, false, "", "runtime", 0⟩]), size := 0, bytes := 0, zero := (.agg []), eqok := false, comp := true, methods := [] }
theorem tyOk69 : TyOk Try.prog 69 ty69 := TyOk.mk2 (z := (.agg #[])) (ms := #[]) (by kernel_rfl) (by kernel_rfl) (by rfl) (by rfl) (fun h => by cases h) rfl
def ty70 : TyI := { und := (.struct #[⟨"_", 68, 0, false, "", "runtime", 0⟩]), size := 0, bytes := 0, zero := (.agg []), eqok := false, comp := true, methods := [] }
theorem tyOk70 : TyOk Try.prog 70 ty70 := TyOk.mk2 (z := (.agg #[])) (ms := #[]) (by kernel_rfl) (by kernel_rfl) (by rfl) (by rfl) (fun h => by cases h) rfl
def ty72 : TyI := { und := (.int .u32), size := 1, bytes := 4, zero := (.int .u32 0), eqok := false, comp := true, methods := [] }
theorem tyOk72 : TyOk Try.prog 72 ty72 := TyOk.mk2 (z := (.int .u32 0)) (ms := #[]) (by kernel_rfl) (by kernel_rfl) (by rfl) (by rfl) (fun h => by cases h) rfl
def ty73 : TyI := { und := (.int .u8), size := 1, bytes := 1, zero := (.int .u8 0), eqok := false, comp := true, methods := [] }
theorem tyOk73 : TyOk Try.prog 73 ty73 := TyOk.mk2 (z := (.int .u8 0)) (ms := #[]) (by kernel_rfl) (by kernel_rfl) (by rfl) (by rfl) (fun h => by cases h) rfl
def ty74 : TyI := { und := (.int .u8), size := 1, bytes := 1, zero := (.int .u8 0), eqok := false, comp := true, methods := [⟨"String", 65, #[], some (51, false)⟩] }
theorem tyOk74 : TyOk Try.prog 74 ty74 := TyOk.mk2 (z := (.int .u8 0)) (ms := #[⟨"String", 65, #[], some (51, false)⟩]) (by kernel_rfl) (by kernel_rfl) (by rfl) (by rfl) (fun h => by cases h) rfl
def ty76 : TyI := { und := (.pointer 5), size := 1, bytes := 8, zero := .nilp, eqok := false, comp := true, methods := [] }
theorem tyOk76 : TyOk Try.prog 76 ty76 := TyOk.mk2 (z := (.pointer none)) (ms := #[]) (by kernel_rfl) (by kernel_rfl) (by rfl) (by rfl) (fun h => by cases h) rfl
def ty77 : TyI := { und := (.int .i32), size := 1, bytes := 4, zero := (.int .i32 0), eqok := false, comp := true, methods := [] }
theorem tyOk77 : TyOk Try.prog 77 ty77 := TyOk.mk2 (z := (.int .i32 0)) (ms := #[]) (by kernel_rfl) (by kernel_rfl) (by rfl) (by rfl) (fun h => by cases h) rfl
def ty78 : TyI := { und := (.int .i32), size := 1, bytes := 4, zero := (.int .i32 0), eqok := false, comp := true, methods := [] }
theorem tyOk78 : TyOk Try.prog 78 ty78 := TyOk.mk2 (z := (.int .i32 0)) (ms := #[]) (by kernel_rfl) (by kernel_rfl) (by rfl) (by rfl) (fun h => by cases h) rfl
def ty79 : TyI := { und := (.struct #[⟨"Size_", 12, 0, false, "", "", 0⟩, ⟨"PtrBytes", 12, 1, false, "", "", 8⟩, ⟨"Hash", 72, 2, false, "", "", 16⟩, ⟨"TFlag", 73, 3, false, "", "", 20⟩, ⟨"Align_", 5, 4, false, "", "", 21⟩, ⟨"FieldAlign_", 5, 5, false, "", "", 22⟩, ⟨"Kind_", 74, 6, false, "", "", 23⟩, ⟨"Equal", 75, 7, false, "", "", 24⟩, ⟨"GCData", 76, 8, false, "", "", 32⟩, ⟨"Str", 77, 9, false, "", "", 40⟩, ⟨"PtrToThis", 78, 10, false, "", "", 44⟩]), size := 11, bytes := 48, zero := (.agg [(.int .u64 0), (.int .u64 0), (.int .u32 0), (.int .u8 0), (.int .u8 0), (.int .u8 0), (.int .u8 0), .nilf, .nilp, (.int .i32 0), (.int .i32 0)]), eqok := false, comp := false, methods := [] }
theorem tyOk79 : TyOk Try.prog 79 ty79 := TyOk.mk2 (z := (.agg #[(.int .u64 0), (.int .u64 0), (.int .u32 0), (.int .u8 0), (.int .u8 0), (.int .u8 0), (.int .u8 0), .nilFunc, (.pointer none), (.int .i32 0), (.int .i32 0)])) (ms := #[]) (by kernel_rfl) (by kernel_rfl) (by rfl) (by rfl) (fun h => by cases h) rfl
def ty80 : TyI := { und := (.struct #[⟨"Size_", 12, 0, false, "", "", 0⟩, ⟨"PtrBytes", 12, 1, false, "", "", 8⟩, ⟨"Hash", 72, 2, false, "", "", 16⟩, ⟨"TFlag", 73, 3, false, "", "", 20⟩, ⟨"Align_", 5, 4, false, "", "", 21⟩, ⟨"FieldAlign_", 5, 5, false, "", "", 22⟩, ⟨"Kind_", 74, 6, false, "", "", 23⟩, ⟨"Equal", 75, 7, false, "", "", 24⟩, ⟨"GCData", 76, 8, false, "", "", 32⟩, ⟨"Str", 77, 9, false, "", "", 40⟩, ⟨"PtrToThis", 78, 10, false, "", "", 44⟩]), size := 11, bytes := 48, zero := (.agg [(.int .u64 0), (.int .u64 0), (.int .u32 0), (.int .u8 0), (.int .u8 0), (.int .u8 0), (.int .u8 0), .nilf, .nilp, (.int .i32 0), (.int .i32 0)]), eqok := false, comp := false, methods := [] }
theorem tyOk80 : TyOk Try.prog 80 ty80 := TyOk.mk2 (z := (.agg #[(.int .u64 0), (.int .u64 0), (.int .u32 0), (.int .u8 0), (.int .u8 0), (.int .u8 0), (.int .u8 0), .nilFunc, (.pointer none), (.int .i32 0), (.int .i32 0)])) (ms := #[]) (by kernel_rfl) (by kernel_rfl) (by rfl) (by rfl) (fun h => by cases h) rfl
def ty81 : TyI := { und := .unsafePointer, size := 1, bytes := 8, zero := .nilp, eqok := false, comp := true, methods := [] }
theorem tyOk81 : TyOk Try.prog 81 ty81 := TyOk.mk2 (z := (.pointer none)) (ms := #[]) (by kernel_rfl) (by kernel_rfl) (by rfl) (by rfl) (fun h => by cases h) rfl
def tyOf : TypeId → Option TyI
  | 2 => some ty2
  | 3 => some ty3
  | 4 => some ty4
  | 5 => some ty5
  | 6 => some ty6
  | 7 => some ty7
  | 8 => some ty8
  | 9 => some ty9
  | 10 => some ty10
  | 11 => some ty11
  | 12 => some ty12
  | 13 => some ty13
  | 14 => some ty14
  | 15 => some ty15
  | 16 => some ty16
  | 17 => some ty17
  | 18 => some ty18
  | 19 => some ty19
  | 20 => some ty20
  | 21 => some ty21
  | 23 => some ty23
  | 24 => some ty24
  | 25 => some ty25
  | 26 => some ty26
  | 43 => some ty43
  | 45 => some ty45
  | 46 => some ty46
  | 51 => some ty51
  | 54 => some ty54
  | 55 => some ty55
  | 56 => some ty56
  | 66 => some ty66
  | 67 => some ty67
  | 68 => some ty68
  | 69 => some ty69
  | 70 => some ty70
  | 72 => some ty72
  | 73 => some ty73
  | 74 => some ty74
  | 76 => some ty76
  | 77 => some ty77
  | 78 => some ty78
  | 79 => some ty79
  | 80 => some ty80
  | 81 => some ty81
  | _ => none
def ctx : Ctx := ⟨tyOf⟩
theorem ctxOk : CtxTy Try.prog ctx := ⟨by
  intro t ti h
  unfold ctx tyOf at h
  simp only at h
  split at h <;> first | (injection h with h; subst h; first | exact tyOk2 | exact tyOk3 | exact tyOk4 | exact tyOk5 | exact tyOk6 | exact tyOk7 | exact tyOk8 | exact tyOk9 | exact tyOk10 | exact tyOk11 | exact tyOk12 | exact tyOk13 | exact tyOk14 | exact tyOk15 | exact tyOk16 | exact tyOk17 | exact tyOk18 | exact tyOk19 | exact tyOk20 | exact tyOk21 | exact tyOk23 | exact tyOk24 | exact tyOk25 | exact tyOk26 | exact tyOk43 | exact tyOk45 | exact tyOk46 | exact tyOk51 | exact tyOk54 | exact tyOk55 | exact tyOk56 | exact tyOk66 | exact tyOk67 | exact tyOk68 | exact tyOk69 | exact tyOk70 | exact tyOk72 | exact tyOk73 | exact tyOk74 | exact tyOk76 | exact tyOk77 | exact tyOk78 | exact tyOk79 | exact tyOk80 | exact tyOk81) | cases h⟩
end Go.Proofs.Ytkaifmdhkoiaeaa.M
