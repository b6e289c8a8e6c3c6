/- The types, as the abstract machine has them (made by a program of mine, gen.py). -/
import Derived.Test.YthkjepoaddfoiaaPamM2
import Derived.Test.YthkjepoaddfoiaaProg
namespace Go.Proofs.Ythkjepoaddfoiaa.M
set_option linter.unusedVariables false
set_option linter.unusedSimpArgs false
open Go Go.Pam

def ty2 : TyI := { und := (.int .i64), size := 1, bytes := 8, zero := (.int .i64 0), eqok := false, comp := true, methods := [] }
theorem tyOk2 : TyOk Try.prog 2 ty2 := TyOk.mk2 (z := (.int .i64 0)) (ms := #[]) (by kernel_rfl) (by kernel_rfl) (by rfl) (by rfl) (fun h => by cases h) rfl
def ty3 : TyI := { und := (.int .i64), size := 1, bytes := 8, zero := (.int .i64 0), eqok := false, comp := true, methods := [] }
theorem tyOk3 : TyOk Try.prog 3 ty3 := TyOk.mk2 (z := (.int .i64 0)) (ms := #[]) (by kernel_rfl) (by kernel_rfl) (by rfl) (by rfl) (fun h => by cases h) rfl
def ty4 : TyI := { und := .bool, size := 1, bytes := 1, zero := (.bool false), eqok := false, comp := true, methods := [] }
theorem tyOk4 : TyOk Try.prog 4 ty4 := TyOk.mk2 (z := (.bool false)) (ms := #[]) (by kernel_rfl) (by kernel_rfl) (by rfl) (by rfl) (fun h => by cases h) rfl
def ty5 : TyI := { und := (.int .u8), size := 1, bytes := 1, zero := (.int .u8 0), eqok := false, comp := true, methods := [] }
theorem tyOk5 : TyOk Try.prog 5 ty5 := TyOk.mk2 (z := (.int .u8 0)) (ms := #[]) (by kernel_rfl) (by kernel_rfl) (by rfl) (by rfl) (fun h => by cases h) rfl
def ty6 : TyI := { und := (.int .u8), size := 1, bytes := 1, zero := (.int .u8 0), eqok := false, comp := true, methods := [] }
theorem tyOk6 : TyOk Try.prog 6 ty6 := TyOk.mk2 (z := (.int .u8 0)) (ms := #[]) (by kernel_rfl) (by kernel_rfl) (by rfl) (by rfl) (fun h => by cases h) rfl
def ty7 : TyI := { und := (.struct #[⟨"x", 2, 0, false, "", "runtime", 0⟩, ⟨"y", 3, 1, false, "", "runtime", 8⟩, ⟨"signed", 4, 2, false, "", "runtime", 16⟩, ⟨"code", 6, 3, false, "", "runtime", 17⟩]), size := 4, bytes := 24, zero := (.agg [(.int .i64 0), (.int .i64 0), (.bool false), (.int .u8 0)]), eqok := false, comp := true, methods := [] }
theorem tyOk7 : TyOk Try.prog 7 ty7 := TyOk.mk2 (z := (.agg #[(.int .i64 0), (.int .i64 0), (.bool false), (.int .u8 0)])) (ms := #[]) (by kernel_rfl) (by kernel_rfl) (by rfl) (by rfl) (fun h => by cases h) rfl
def ty8 : TyI := { und := (.struct #[⟨"x", 2, 0, false, "", "runtime", 0⟩, ⟨"y", 3, 1, false, "", "runtime", 8⟩, ⟨"signed", 4, 2, false, "", "runtime", 16⟩, ⟨"code", 6, 3, false, "", "runtime", 17⟩]), size := 4, bytes := 24, zero := (.agg [(.int .i64 0), (.int .i64 0), (.bool false), (.int .u8 0)]), eqok := false, comp := true, methods := [⟨"Error", 61, #[], some (53, false)⟩, ⟨"RuntimeError", 1, #[], some (54, false)⟩] }
theorem tyOk8 : TyOk Try.prog 8 ty8 := TyOk.mk2 (z := (.agg #[(.int .i64 0), (.int .i64 0), (.bool false), (.int .u8 0)])) (ms := #[⟨"Error", 61, #[], some (53, false)⟩, ⟨"RuntimeError", 1, #[], some (54, false)⟩]) (by kernel_rfl) (by kernel_rfl) (by rfl) (by rfl) (fun h => by cases h) rfl
def ty9 : TyI := { und := .string, size := 1, bytes := 16, zero := (.str []), eqok := false, comp := true, methods := [] }
theorem tyOk9 : TyOk Try.prog 9 ty9 := TyOk.mk2 (z := (.string ⟨#[]⟩)) (ms := #[]) (by kernel_rfl) (by kernel_rfl) (by rfl) (by rfl) (fun h => by cases h) rfl
def ty10 : TyI := { und := .string, size := 1, bytes := 16, zero := (.str []), eqok := false, comp := true, methods := [⟨"Error", 61, #[], some (55, false)⟩, ⟨"RuntimeError", 1, #[], some (56, false)⟩] }
theorem tyOk10 : TyOk Try.prog 10 ty10 := TyOk.mk2 (z := (.string ⟨#[]⟩)) (ms := #[⟨"Error", 61, #[], some (55, false)⟩, ⟨"RuntimeError", 1, #[], some (56, false)⟩]) (by kernel_rfl) (by kernel_rfl) (by rfl) (by rfl) (fun h => by cases h) rfl
def ty11 : TyI := { und := .string, size := 1, bytes := 16, zero := (.str []), eqok := false, comp := true, methods := [⟨"Error", 61, #[], some (57, false)⟩, ⟨"RuntimeError", 1, #[], some (58, false)⟩] }
theorem tyOk11 : TyOk Try.prog 11 ty11 := TyOk.mk2 (z := (.string ⟨#[]⟩)) (ms := #[⟨"Error", 61, #[], some (57, false)⟩, ⟨"RuntimeError", 1, #[], some (58, false)⟩]) (by kernel_rfl) (by kernel_rfl) (by rfl) (by rfl) (fun h => by cases h) rfl
def ty12 : TyI := { und := (.int .u64), size := 1, bytes := 8, zero := (.int .u64 0), eqok := false, comp := true, methods := [] }
theorem tyOk12 : TyOk Try.prog 12 ty12 := TyOk.mk2 (z := (.int .u64 0)) (ms := #[]) (by kernel_rfl) (by kernel_rfl) (by rfl) (by rfl) (fun h => by cases h) rfl
def ty13 : TyI := { und := (.struct #[⟨"msg", 9, 0, false, "", "runtime", 0⟩, ⟨"addr", 12, 1, false, "", "runtime", 16⟩]), size := 2, bytes := 24, zero := (.agg [(.str []), (.int .u64 0)]), eqok := false, comp := true, methods := [] }
theorem tyOk13 : TyOk Try.prog 13 ty13 := TyOk.mk2 (z := (.agg #[(.string ⟨#[]⟩), (.int .u64 0)])) (ms := #[]) (by kernel_rfl) (by kernel_rfl) (by rfl) (by rfl) (fun h => by cases h) rfl
def ty14 : TyI := { und := (.struct #[⟨"msg", 9, 0, false, "", "runtime", 0⟩, ⟨"addr", 12, 1, false, "", "runtime", 16⟩]), size := 2, bytes := 24, zero := (.agg [(.str []), (.int .u64 0)]), eqok := false, comp := true, methods := [⟨"Error", 61, #[], some (59, false)⟩, ⟨"RuntimeError", 1, #[], some (60, false)⟩] }
theorem tyOk14 : TyOk Try.prog 14 ty14 := TyOk.mk2 (z := (.agg #[(.string ⟨#[]⟩), (.int .u64 0)])) (ms := #[⟨"Error", 61, #[], some (59, false)⟩, ⟨"RuntimeError", 1, #[], some (60, false)⟩]) (by kernel_rfl) (by kernel_rfl) (by rfl) (by rfl) (fun h => by cases h) rfl
def ty15 : TyI := { und := (.pointer 75), size := 1, bytes := 8, zero := .nilp, eqok := false, comp := true, methods := [⟨"Error", 61, #[], some (61, true)⟩, ⟨"RuntimeError", 1, #[], some (62, true)⟩] }
theorem tyOk15 : TyOk Try.prog 15 ty15 := TyOk.mk2 (z := (.pointer none)) (ms := #[⟨"Error", 61, #[], some (61, true)⟩, ⟨"RuntimeError", 1, #[], some (62, true)⟩]) (by kernel_rfl) (by kernel_rfl) (by rfl) (by rfl) (fun h => by cases h) rfl
def ty16 : TyI := { und := (.pointer 78), size := 1, bytes := 8, zero := .nilp, eqok := false, comp := true, methods := [⟨"Error", 61, #[], some (63, true)⟩, ⟨"RuntimeError", 1, #[], some (64, true)⟩] }
theorem tyOk16 : TyOk Try.prog 16 ty16 := TyOk.mk2 (z := (.pointer none)) (ms := #[⟨"Error", 61, #[], some (63, true)⟩, ⟨"RuntimeError", 1, #[], some (64, true)⟩]) (by kernel_rfl) (by kernel_rfl) (by rfl) (by rfl) (fun h => by cases h) rfl
def ty17 : TyI := { und := (.pointer 87), size := 1, bytes := 8, zero := .nilp, eqok := false, comp := true, methods := [⟨"Align", 79, #[], some (65, true)⟩] }
theorem tyOk17 : TyOk Try.prog 17 ty17 := TyOk.mk2 (z := (.pointer none)) (ms := #[⟨"Align", 79, #[], some (65, true)⟩]) (by kernel_rfl) (by kernel_rfl) (by rfl) (by rfl) (fun h => by cases h) rfl
def ty18 : TyI := { und := (.struct #[⟨"typ", 17, 0, false, "", "internal/runtime/maps", 0⟩]), size := 1, bytes := 8, zero := (.agg [.nilp]), eqok := false, comp := true, methods := [] }
theorem tyOk18 : TyOk Try.prog 18 ty18 := TyOk.mk2 (z := (.agg #[(.pointer none)])) (ms := #[]) (by kernel_rfl) (by kernel_rfl) (by rfl) (by rfl) (fun h => by cases h) rfl
def ty19 : TyI := { und := (.struct #[⟨"typ", 17, 0, false, "", "internal/runtime/maps", 0⟩]), size := 1, bytes := 8, zero := (.agg [.nilp]), eqok := false, comp := true, methods := [⟨"Error", 61, #[], some (66, false)⟩, ⟨"RuntimeError", 1, #[], some (67, false)⟩] }
theorem tyOk19 : TyOk Try.prog 19 ty19 := TyOk.mk2 (z := (.agg #[(.pointer none)])) (ms := #[⟨"Error", 61, #[], some (66, false)⟩, ⟨"RuntimeError", 1, #[], some (67, false)⟩]) (by kernel_rfl) (by kernel_rfl) (by rfl) (by rfl) (fun h => by cases h) rfl
def ty20 : TyI := { und := (.interface #[]), size := 1, bytes := 16, zero := .nili, eqok := false, comp := true, methods := [] }
theorem tyOk20 : TyOk Try.prog 20 ty20 := TyOk.mk2 (z := .nilIface) (ms := #[]) (by kernel_rfl) (by kernel_rfl) (by rfl) (by rfl) (fun h => by cases h) rfl
def ty21 : TyI := { und := (.int .i32), size := 1, bytes := 4, zero := (.int .i32 0), eqok := false, comp := true, methods := [] }
theorem tyOk21 : TyOk Try.prog 21 ty21 := TyOk.mk2 (z := (.int .i32 0)) (ms := #[]) (by kernel_rfl) (by kernel_rfl) (by rfl) (by rfl) (fun h => by cases h) rfl
def ty22 : TyI := { und := (.slice 9), size := 1, bytes := 24, zero := .nils, eqok := false, comp := false, methods := [] }
theorem tyOk22 : TyOk Try.prog 22 ty22 := TyOk.mk2 (z := (.slice none 0 0)) (ms := #[]) (by kernel_rfl) (by kernel_rfl) (by rfl) (by rfl) (fun h => by cases h) rfl
def ty23 : TyI := { und := (.slice 25), size := 1, bytes := 24, zero := .nils, eqok := false, comp := false, methods := [] }
theorem tyOk23 : TyOk Try.prog 23 ty23 := TyOk.mk2 (z := (.slice none 0 0)) (ms := #[]) (by kernel_rfl) (by kernel_rfl) (by rfl) (by rfl) (fun h => by cases h) rfl
def ty24 : TyI := { und := (.struct #[⟨"Kind", 3, 0, false, "", "", 0⟩, ⟨"Attr", 9, 1, false, "", "", 8⟩, ⟨"Value", 9, 2, false, "", "", 24⟩, ⟨"Subs", 22, 3, false, "", "", 40⟩, ⟨"Kids", 23, 4, false, "", "", 64⟩]), size := 5, bytes := 88, zero := (.agg [(.int .i64 0), (.str []), (.str []), .nils, .nils]), eqok := false, comp := false, methods := [] }
theorem tyOk24 : TyOk Try.prog 24 ty24 := TyOk.mk2 (z := (.agg #[(.int .i64 0), (.string ⟨#[]⟩), (.string ⟨#[]⟩), (.slice none 0 0), (.slice none 0 0)])) (ms := #[]) (by kernel_rfl) (by kernel_rfl) (by rfl) (by rfl) (fun h => by cases h) rfl
def ty25 : TyI := { und := (.struct #[⟨"Kind", 3, 0, false, "", "", 0⟩, ⟨"Attr", 9, 1, false, "", "", 8⟩, ⟨"Value", 9, 2, false, "", "", 24⟩, ⟨"Subs", 22, 3, false, "", "", 40⟩, ⟨"Kids", 23, 4, false, "", "", 64⟩]), size := 5, bytes := 88, zero := (.agg [(.int .i64 0), (.str []), (.str []), .nils, .nils]), eqok := false, comp := false, methods := [] }
theorem tyOk25 : TyOk Try.prog 25 ty25 := TyOk.mk2 (z := (.agg #[(.int .i64 0), (.string ⟨#[]⟩), (.string ⟨#[]⟩), (.slice none 0 0), (.slice none 0 0)])) (ms := #[]) (by kernel_rfl) (by kernel_rfl) (by rfl) (by rfl) (fun h => by cases h) rfl
def ty32 : TyI := { und := (.int .u16), size := 1, bytes := 2, zero := (.int .u16 0), eqok := false, comp := true, methods := [] }
theorem tyOk32 : TyOk Try.prog 32 ty32 := TyOk.mk2 (z := (.int .u16 0)) (ms := #[]) (by kernel_rfl) (by kernel_rfl) (by rfl) (by rfl) (fun h => by cases h) rfl
def ty33 : TyI := { und := (.int .i64), size := 1, bytes := 8, zero := (.int .i64 0), eqok := false, comp := true, methods := [⟨"Error", 61, #[], some (68, false)⟩] }
theorem tyOk33 : TyOk Try.prog 33 ty33 := TyOk.mk2 (z := (.int .i64 0)) (ms := #[⟨"Error", 61, #[], some (68, false)⟩]) (by kernel_rfl) (by kernel_rfl) (by rfl) (by rfl) (fun h => by cases h) rfl
def ty36 : TyI := { und := (.slice 5), size := 1, bytes := 24, zero := .nils, eqok := false, comp := false, methods := [] }
theorem tyOk36 : TyOk Try.prog 36 ty36 := TyOk.mk2 (z := (.slice none 0 0)) (ms := #[]) (by kernel_rfl) (by kernel_rfl) (by rfl) (by rfl) (fun h => by cases h) rfl
def ty39 : TyI := { und := (.slice 3), size := 1, bytes := 24, zero := .nils, eqok := false, comp := false, methods := [] }
theorem tyOk39 : TyOk Try.prog 39 ty39 := TyOk.mk2 (z := (.slice none 0 0)) (ms := #[]) (by kernel_rfl) (by kernel_rfl) (by rfl) (by rfl) (fun h => by cases h) rfl
def ty46 : TyI := { und := (.pointer 48), size := 1, bytes := 8, zero := .nilp, eqok := false, comp := true, methods := [⟨"prefect/filter.byte", 64, #[], some (39, true)⟩, ⟨"prefect/filter.filter", 49, #[], some (28, true)⟩, ⟨"prefect/filter.item", 49, #[], some (41, true)⟩, ⟨"prefect/filter.next", 65, #[], some (40, true)⟩, ⟨"prefect/filter.value", 61, #[], some (46, true)⟩] }
theorem tyOk46 : TyOk Try.prog 46 ty46 := TyOk.mk2 (z := (.pointer none)) (ms := #[⟨"prefect/filter.byte", 64, #[], some (39, true)⟩, ⟨"prefect/filter.filter", 49, #[], some (28, true)⟩, ⟨"prefect/filter.item", 49, #[], some (41, true)⟩, ⟨"prefect/filter.next", 65, #[], some (40, true)⟩, ⟨"prefect/filter.value", 61, #[], some (46, true)⟩]) (by kernel_rfl) (by kernel_rfl) (by rfl) (by rfl) (fun h => by cases h) rfl
def ty47 : TyI := { und := (.struct #[⟨"s", 9, 0, false, "", "prefect/filter", 0⟩, ⟨"at", 3, 1, false, "", "prefect/filter", 16⟩, ⟨"left", 3, 2, false, "", "prefect/filter", 24⟩, ⟨"fails", 4, 3, false, "", "prefect/filter", 32⟩]), size := 4, bytes := 40, zero := (.agg [(.str []), (.int .i64 0), (.int .i64 0), (.bool false)]), eqok := false, comp := true, methods := [] }
theorem tyOk47 : TyOk Try.prog 47 ty47 := TyOk.mk2 (z := (.agg #[(.string ⟨#[]⟩), (.int .i64 0), (.int .i64 0), (.bool false)])) (ms := #[]) (by kernel_rfl) (by kernel_rfl) (by rfl) (by rfl) (fun h => by cases h) rfl
def ty48 : TyI := { und := (.struct #[⟨"s", 9, 0, false, "", "prefect/filter", 0⟩, ⟨"at", 3, 1, false, "", "prefect/filter", 16⟩, ⟨"left", 3, 2, false, "", "prefect/filter", 24⟩, ⟨"fails", 4, 3, false, "", "prefect/filter", 32⟩]), size := 4, bytes := 40, zero := (.agg [(.str []), (.int .i64 0), (.int .i64 0), (.bool false)]), eqok := true, comp := true, methods := [] }
theorem tyOk48 : TyOk Try.prog 48 ty48 := TyOk.mk2 (z := (.agg #[(.string ⟨#[]⟩), (.int .i64 0), (.int .i64 0), (.bool false)])) (ms := #[]) (by kernel_rfl) (by kernel_rfl) (by rfl) (by rfl) (fun _ => ⟨by kernel_rfl, by kernel_rfl⟩) rfl
def ty51 : TyI := { und := (.int .u64), size := 1, bytes := 8, zero := (.int .u64 0), eqok := false, comp := true, methods := [] }
theorem tyOk51 : TyOk Try.prog 51 ty51 := TyOk.mk2 (z := (.int .u64 0)) (ms := #[]) (by kernel_rfl) (by kernel_rfl) (by rfl) (by rfl) (fun h => by cases h) rfl
def ty53 : TyI := { und := (.pointer 55), size := 1, bytes := 8, zero := .nilp, eqok := false, comp := true, methods := [⟨"Grow", 69, #[], some (45, true)⟩, ⟨"Reset", 1, #[], some (69, true)⟩, ⟨"String", 61, #[], some (36, true)⟩, ⟨"WriteByte", 68, #[], some (44, true)⟩, ⟨"WriteString", 59, #[], some (35, true)⟩, ⟨"strings.copyCheck", 1, #[], some (43, true)⟩, ⟨"strings.grow", 69, #[], some (48, true)⟩] }
theorem tyOk53 : TyOk Try.prog 53 ty53 := TyOk.mk2 (z := (.pointer none)) (ms := #[⟨"Grow", 69, #[], some (45, true)⟩, ⟨"Reset", 1, #[], some (69, true)⟩, ⟨"String", 61, #[], some (36, true)⟩, ⟨"WriteByte", 68, #[], some (44, true)⟩, ⟨"WriteString", 59, #[], some (35, true)⟩, ⟨"strings.copyCheck", 1, #[], some (43, true)⟩, ⟨"strings.grow", 69, #[], some (48, true)⟩]) (by kernel_rfl) (by kernel_rfl) (by rfl) (by rfl) (fun h => by cases h) rfl
def ty54 : TyI := { und := (.struct #[⟨"addr", 53, 0, false, "", "strings", 0⟩, ⟨"buf", 36, 1, false, "", "strings", 8⟩]), size := 2, bytes := 32, zero := (.agg [.nilp, .nils]), eqok := false, comp := false, methods := [] }
theorem tyOk54 : TyOk Try.prog 54 ty54 := TyOk.mk2 (z := (.agg #[(.pointer none), (.slice none 0 0)])) (ms := #[]) (by kernel_rfl) (by kernel_rfl) (by rfl) (by rfl) (fun h => by cases h) rfl
def ty55 : TyI := { und := (.struct #[⟨"addr", 53, 0, false, "", "strings", 0⟩, ⟨"buf", 36, 1, false, "", "strings", 8⟩]), size := 2, bytes := 32, zero := (.agg [.nilp, .nils]), eqok := false, comp := false, methods := [] }
theorem tyOk55 : TyOk Try.prog 55 ty55 := TyOk.mk2 (z := (.agg #[(.pointer none), (.slice none 0 0)])) (ms := #[]) (by kernel_rfl) (by kernel_rfl) (by rfl) (by rfl) (fun h => by cases h) rfl
def ty56 : TyI := { und := (.interface #[("Error", 61)]), size := 1, bytes := 16, zero := .nili, eqok := false, comp := true, methods := [] }
theorem tyOk56 : TyOk Try.prog 56 ty56 := TyOk.mk2 (z := .nilIface) (ms := #[]) (by kernel_rfl) (by kernel_rfl) (by rfl) (by rfl) (fun h => by cases h) rfl
def ty57 : TyI := { und := (.interface #[("Error", 61)]), size := 1, bytes := 16, zero := .nili, eqok := false, comp := true, methods := [] }
theorem tyOk57 : TyOk Try.prog 57 ty57 := TyOk.mk2 (z := .nilIface) (ms := #[]) (by kernel_rfl) (by kernel_rfl) (by rfl) (by rfl) (fun h => by cases h) rfl
def ty60 : TyI := { und := (.array 4 9), size := 4, bytes := 64, zero := (.agg [(.str []), (.str []), (.str []), (.str [])]), eqok := false, comp := true, methods := [] }
theorem tyOk60 : TyOk Try.prog 60 ty60 := TyOk.mk2 (z := (.agg #[(.string ⟨#[]⟩), (.string ⟨#[]⟩), (.string ⟨#[]⟩), (.string ⟨#[]⟩)])) (ms := #[]) (by kernel_rfl) (by kernel_rfl) (by rfl) (by rfl) (fun h => by cases h) rfl
def ty63 : TyI := { und := (.array 7 9), size := 7, bytes := 112, zero := (.agg [(.str []), (.str []), (.str []), (.str []), (.str []), (.str []), (.str [])]), eqok := false, comp := true, methods := [] }
theorem tyOk63 : TyOk Try.prog 63 ty63 := TyOk.mk2 (z := (.agg #[(.string ⟨#[]⟩), (.string ⟨#[]⟩), (.string ⟨#[]⟩), (.string ⟨#[]⟩), (.string ⟨#[]⟩), (.string ⟨#[]⟩), (.string ⟨#[]⟩)])) (ms := #[]) (by kernel_rfl) (by kernel_rfl) (by rfl) (by rfl) (fun h => by cases h) rfl
def ty67 : TyI := { und := (.pointer 5), size := 1, bytes := 8, zero := .nilp, eqok := false, comp := true, methods := [] }
theorem tyOk67 : TyOk Try.prog 67 ty67 := TyOk.mk2 (z := (.pointer none)) (ms := #[]) (by kernel_rfl) (by kernel_rfl) (by rfl) (by rfl) (fun h => by cases h) rfl
def ty70 : TyI := { und := .unsafePointer, size := 1, bytes := 8, zero := .nilp, eqok := false, comp := true, methods := [] }
theorem tyOk70 : TyOk Try.prog 70 ty70 := TyOk.mk2 (z := (.pointer none)) (ms := #[]) (by kernel_rfl) (by kernel_rfl) (by rfl) (by rfl) (fun h => by cases h) rfl
def ty74 : TyI := { und := (.struct #[⟨"_interface", 17, 0, false, "", "runtime", 0⟩, ⟨"concrete", 17, 1, false, "", "runtime", 8⟩, ⟨"asserted", 17, 2, false, "", "runtime", 16⟩, ⟨"missingMethod", 9, 3, false, "", "runtime", 24⟩]), size := 4, bytes := 40, zero := (.agg [.nilp, .nilp, .nilp, (.str [])]), eqok := false, comp := true, methods := [] }
theorem tyOk74 : TyOk Try.prog 74 ty74 := TyOk.mk2 (z := (.agg #[(.pointer none), (.pointer none), (.pointer none), (.string ⟨#[]⟩)])) (ms := #[]) (by kernel_rfl) (by kernel_rfl) (by rfl) (by rfl) (fun h => by cases h) rfl
def ty75 : TyI := { und := (.struct #[⟨"_interface", 17, 0, false, "", "runtime", 0⟩, ⟨"concrete", 17, 1, false, "", "runtime", 8⟩, ⟨"asserted", 17, 2, false, "", "runtime", 16⟩, ⟨"missingMethod", 9, 3, false, "", "runtime", 24⟩]), size := 4, bytes := 40, zero := (.agg [.nilp, .nilp, .nilp, (.str [])]), eqok := false, comp := true, methods := [] }
theorem tyOk75 : TyOk Try.prog 75 ty75 := TyOk.mk2 (z := (.agg #[(.pointer none), (.pointer none), (.pointer none), (.string ⟨#[]⟩)])) (ms := #[]) (by kernel_rfl) (by kernel_rfl) (by rfl) (by rfl) (fun h => by cases h) rfl
def ty76 : TyI := { und := (.array 0 16), size := 0, bytes := 0, zero := (.agg []), eqok := false, comp := true, methods := [] }
theorem tyOk76 : TyOk Try.prog 76 ty76 := TyOk.mk2 (z := (.agg #[])) (ms := #[]) (by kernel_rfl) (by kernel_rfl) (by rfl) (by rfl) (fun h => by cases h) rfl
def ty77 : TyI := { und := (.struct #[⟨"_", 76, 0, false, "", "runtime", 0⟩]), size := 0, bytes := 0, zero := (.agg []), eqok := false, comp := true, methods := [] }
theorem tyOk77 : TyOk Try.prog 77 ty77 := TyOk.mk2 (z := (.agg #[])) (ms := #[]) (by kernel_rfl) (by kernel_rfl) (by rfl) (by rfl) (fun h => by cases h) rfl
def ty78 : TyI := { und := (.struct #[⟨"_", 76, 0, false, "", "runtime", 0⟩]), size := 0, bytes := 0, zero := (.agg []), eqok := false, comp := true, methods := [] }
theorem tyOk78 : TyOk Try.prog 78 ty78 := TyOk.mk2 (z := (.agg #[])) (ms := #[]) (by kernel_rfl) (by kernel_rfl) (by rfl) (by rfl) (fun h => by cases h) rfl
def ty80 : TyI := { und := (.int .u32), size := 1, bytes := 4, zero := (.int .u32 0), eqok := false, comp := true, methods := [] }
theorem tyOk80 : TyOk Try.prog 80 ty80 := TyOk.mk2 (z := (.int .u32 0)) (ms := #[]) (by kernel_rfl) (by kernel_rfl) (by rfl) (by rfl) (fun h => by cases h) rfl
def ty81 : TyI := { und := (.int .u8), size := 1, bytes := 1, zero := (.int .u8 0), eqok := false, comp := true, methods := [] }
theorem tyOk81 : TyOk Try.prog 81 ty81 := TyOk.mk2 (z := (.int .u8 0)) (ms := #[]) (by kernel_rfl) (by kernel_rfl) (by rfl) (by rfl) (fun h => by cases h) rfl
def ty82 : TyI := { und := (.int .u8), size := 1, bytes := 1, zero := (.int .u8 0), eqok := false, comp := true, methods := [⟨"String", 61, #[], some (70, false)⟩] }
theorem tyOk82 : TyOk Try.prog 82 ty82 := TyOk.mk2 (z := (.int .u8 0)) (ms := #[⟨"String", 61, #[], some (70, false)⟩]) (by kernel_rfl) (by kernel_rfl) (by rfl) (by rfl) (fun h => by cases h) rfl
def ty84 : TyI := { und := (.int .i32), size := 1, bytes := 4, zero := (.int .i32 0), eqok := false, comp := true, methods := [] }
theorem tyOk84 : TyOk Try.prog 84 ty84 := TyOk.mk2 (z := (.int .i32 0)) (ms := #[]) (by kernel_rfl) (by kernel_rfl) (by rfl) (by rfl) (fun h => by cases h) rfl
def ty85 : TyI := { und := (.int .i32), size := 1, bytes := 4, zero := (.int .i32 0), eqok := false, comp := true, methods := [] }
theorem tyOk85 : TyOk Try.prog 85 ty85 := TyOk.mk2 (z := (.int .i32 0)) (ms := #[]) (by kernel_rfl) (by kernel_rfl) (by rfl) (by rfl) (fun h => by cases h) rfl
def ty86 : TyI := { und := (.struct #[⟨"Size_", 12, 0, false, "", "", 0⟩, ⟨"PtrBytes", 12, 1, false, "", "", 8⟩, ⟨"Hash", 80, 2, false, "", "", 16⟩, ⟨"TFlag", 81, 3, false, "", "", 20⟩, ⟨"Align_", 5, 4, false, "", "", 21⟩, ⟨"FieldAlign_", 5, 5, false, "", "", 22⟩, ⟨"Kind_", 82, 6, false, "", "", 23⟩, ⟨"Equal", 83, 7, false, "", "", 24⟩, ⟨"GCData", 67, 8, false, "", "", 32⟩, ⟨"Str", 84, 9, false, "", "", 40⟩, ⟨"PtrToThis", 85, 10, false, "", "", 44⟩]), size := 11, bytes := 48, zero := (.agg [(.int .u64 0), (.int .u64 0), (.int .u32 0), (.int .u8 0), (.int .u8 0), (.int .u8 0), (.int .u8 0), .nilf, .nilp, (.int .i32 0), (.int .i32 0)]), eqok := false, comp := false, methods := [] }
theorem tyOk86 : TyOk Try.prog 86 ty86 := TyOk.mk2 (z := (.agg #[(.int .u64 0), (.int .u64 0), (.int .u32 0), (.int .u8 0), (.int .u8 0), (.int .u8 0), (.int .u8 0), .nilFunc, (.pointer none), (.int .i32 0), (.int .i32 0)])) (ms := #[]) (by kernel_rfl) (by kernel_rfl) (by rfl) (by rfl) (fun h => by cases h) rfl
def ty87 : TyI := { und := (.struct #[⟨"Size_", 12, 0, false, "", "", 0⟩, ⟨"PtrBytes", 12, 1, false, "", "", 8⟩, ⟨"Hash", 80, 2, false, "", "", 16⟩, ⟨"TFlag", 81, 3, false, "", "", 20⟩, ⟨"Align_", 5, 4, false, "", "", 21⟩, ⟨"FieldAlign_", 5, 5, false, "", "", 22⟩, ⟨"Kind_", 82, 6, false, "", "", 23⟩, ⟨"Equal", 83, 7, false, "", "", 24⟩, ⟨"GCData", 67, 8, false, "", "", 32⟩, ⟨"Str", 84, 9, false, "", "", 40⟩, ⟨"PtrToThis", 85, 10, false, "", "", 44⟩]), size := 11, bytes := 48, zero := (.agg [(.int .u64 0), (.int .u64 0), (.int .u32 0), (.int .u8 0), (.int .u8 0), (.int .u8 0), (.int .u8 0), .nilf, .nilp, (.int .i32 0), (.int .i32 0)]), eqok := false, comp := false, methods := [] }
theorem tyOk87 : TyOk Try.prog 87 ty87 := TyOk.mk2 (z := (.agg #[(.int .u64 0), (.int .u64 0), (.int .u32 0), (.int .u8 0), (.int .u8 0), (.int .u8 0), (.int .u8 0), .nilFunc, (.pointer none), (.int .i32 0), (.int .i32 0)])) (ms := #[]) (by kernel_rfl) (by kernel_rfl) (by rfl) (by rfl) (fun h => by cases h) rfl
def tyOf : TypeId → Option TyI
  | 2 => some ty2
  | 3 => some ty3
  | 4 => some ty4
  | 5 => some ty5
  | 6 => some ty6
  | 7 => some ty7
  | 8 => some ty8
  | 9 => some ty9
  | 10 => some ty10
  | 11 => some ty11
  | 12 => some ty12
  | 13 => some ty13
  | 14 => some ty14
  | 15 => some ty15
  | 16 => some ty16
  | 17 => some ty17
  | 18 => some ty18
  | 19 => some ty19
  | 20 => some ty20
  | 21 => some ty21
  | 22 => some ty22
  | 23 => some ty23
  | 24 => some ty24
  | 25 => some ty25
  | 32 => some ty32
  | 33 => some ty33
  | 36 => some ty36
  | 39 => some ty39
  | 46 => some ty46
  | 47 => some ty47
  | 48 => some ty48
  | 51 => some ty51
  | 53 => some ty53
  | 54 => some ty54
  | 55 => some ty55
  | 56 => some ty56
  | 57 => some ty57
  | 60 => some ty60
  | 63 => some ty63
  | 67 => some ty67
  | 70 => some ty70
  | 74 => some ty74
  | 75 => some ty75
  | 76 => some ty76
  | 77 => some ty77
  | 78 => some ty78
  | 80 => some ty80
  | 81 => some ty81
  | 82 => some ty82
  | 84 => some ty84
  | 85 => some ty85
  | 86 => some ty86
  | 87 => some ty87
  | _ => none
def ctx : Ctx := ⟨tyOf, fun _ => false⟩
theorem ctxOk : CtxTy Try.prog ctx := ⟨by
  intro t ti h
  unfold ctx tyOf at h
  simp only at h
  split at h <;> first | (injection h with h; subst h; first | exact tyOk2 | exact tyOk3 | exact tyOk4 | exact tyOk5 | exact tyOk6 | exact tyOk7 | exact tyOk8 | exact tyOk9 | exact tyOk10 | exact tyOk11 | exact tyOk12 | exact tyOk13 | exact tyOk14 | exact tyOk15 | exact tyOk16 | exact tyOk17 | exact tyOk18 | exact tyOk19 | exact tyOk20 | exact tyOk21 | exact tyOk22 | exact tyOk23 | exact tyOk24 | exact tyOk25 | exact tyOk32 | exact tyOk33 | exact tyOk36 | exact tyOk39 | exact tyOk46 | exact tyOk47 | exact tyOk48 | exact tyOk51 | exact tyOk53 | exact tyOk54 | exact tyOk55 | exact tyOk56 | exact tyOk57 | exact tyOk60 | exact tyOk63 | exact tyOk67 | exact tyOk70 | exact tyOk74 | exact tyOk75 | exact tyOk76 | exact tyOk77 | exact tyOk78 | exact tyOk80 | exact tyOk81 | exact tyOk82 | exact tyOk84 | exact tyOk85 | exact tyOk86 | exact tyOk87) | cases h⟩
end Go.Proofs.Ythkjepoaddfoiaa.M
