/- The types, as the abstract machine has them (made by a program of mine, gen.py). -/
import Derived.Test.YthcchjhieolflaaPam15
import Derived.Test.YthcchjhieolflaaProg
namespace Go.Proofs.Ythcchjhieolflaa.M
set_option linter.unusedVariables false
set_option linter.unusedSimpArgs false
open Go Go.Pam

def ty2 : TyI := { und := (.int .i64), size := 1, bytes := 8, zero := (.int .i64 0), eqok := false, comp := true, methods := [] }
theorem tyOk2 : TyOk Try.prog 2 ty2 := TyOk.mk2 (z := (.int .i64 0)) (ms := #[]) (by kernel_rfl) (by kernel_rfl) (by rfl) (by rfl) (fun h => by cases h) rfl
def ty3 : TyI := { und := (.int .i64), size := 1, bytes := 8, zero := (.int .i64 0), eqok := false, comp := true, methods := [] }
theorem tyOk3 : TyOk Try.prog 3 ty3 := TyOk.mk2 (z := (.int .i64 0)) (ms := #[]) (by kernel_rfl) (by kernel_rfl) (by rfl) (by rfl) (fun h => by cases h) rfl
def ty4 : TyI := { und := .bool, size := 1, bytes := 1, zero := (.bool false), eqok := false, comp := true, methods := [] }
theorem tyOk4 : TyOk Try.prog 4 ty4 := TyOk.mk2 (z := (.bool false)) (ms := #[]) (by kernel_rfl) (by kernel_rfl) (by rfl) (by rfl) (fun h => by cases h) rfl
def ty5 : TyI := { und := (.int .u8), size := 1, bytes := 1, zero := (.int .u8 0), eqok := false, comp := true, methods := [] }
theorem tyOk5 : TyOk Try.prog 5 ty5 := TyOk.mk2 (z := (.int .u8 0)) (ms := #[]) (by kernel_rfl) (by kernel_rfl) (by rfl) (by rfl) (fun h => by cases h) rfl
def ty6 : TyI := { und := (.int .u8), size := 1, bytes := 1, zero := (.int .u8 0), eqok := false, comp := true, methods := [] }
theorem tyOk6 : TyOk Try.prog 6 ty6 := TyOk.mk2 (z := (.int .u8 0)) (ms := #[]) (by kernel_rfl) (by kernel_rfl) (by rfl) (by rfl) (fun h => by cases h) rfl
def ty7 : TyI := { und := (.struct #[⟨"x", 2, 0, false, "", "runtime", 0⟩, ⟨"y", 3, 1, false, "", "runtime", 8⟩, ⟨"signed", 4, 2, false, "", "runtime", 16⟩, ⟨"code", 6, 3, false, "", "runtime", 17⟩]), size := 4, bytes := 24, zero := (.agg [(.int .i64 0), (.int .i64 0), (.bool false), (.int .u8 0)]), eqok := false, comp := true, methods := [] }
theorem tyOk7 : TyOk Try.prog 7 ty7 := TyOk.mk2 (z := (.agg #[(.int .i64 0), (.int .i64 0), (.bool false), (.int .u8 0)])) (ms := #[]) (by kernel_rfl) (by kernel_rfl) (by rfl) (by rfl) (fun h => by cases h) rfl
def ty8 : TyI := { und := (.struct #[⟨"x", 2, 0, false, "", "runtime", 0⟩, ⟨"y", 3, 1, false, "", "runtime", 8⟩, ⟨"signed", 4, 2, false, "", "runtime", 16⟩, ⟨"code", 6, 3, false, "", "runtime", 17⟩]), size := 4, bytes := 24, zero := (.agg [(.int .i64 0), (.int .i64 0), (.bool false), (.int .u8 0)]), eqok := false, comp := true, methods := [⟨"Error", 104, #[], some (63, false)⟩, ⟨"RuntimeError", 1, #[], some (64, false)⟩] }
theorem tyOk8 : TyOk Try.prog 8 ty8 := TyOk.mk2 (z := (.agg #[(.int .i64 0), (.int .i64 0), (.bool false), (.int .u8 0)])) (ms := #[⟨"Error", 104, #[], some (63, false)⟩, ⟨"RuntimeError", 1, #[], some (64, false)⟩]) (by kernel_rfl) (by kernel_rfl) (by rfl) (by rfl) (fun h => by cases h) rfl
def ty9 : TyI := { und := .string, size := 1, bytes := 16, zero := (.str []), eqok := false, comp := true, methods := [] }
theorem tyOk9 : TyOk Try.prog 9 ty9 := TyOk.mk2 (z := (.string ⟨#[]⟩)) (ms := #[]) (by kernel_rfl) (by kernel_rfl) (by rfl) (by rfl) (fun h => by cases h) rfl
def ty10 : TyI := { und := .string, size := 1, bytes := 16, zero := (.str []), eqok := false, comp := true, methods := [⟨"Error", 104, #[], some (65, false)⟩, ⟨"RuntimeError", 1, #[], some (66, false)⟩] }
theorem tyOk10 : TyOk Try.prog 10 ty10 := TyOk.mk2 (z := (.string ⟨#[]⟩)) (ms := #[⟨"Error", 104, #[], some (65, false)⟩, ⟨"RuntimeError", 1, #[], some (66, false)⟩]) (by kernel_rfl) (by kernel_rfl) (by rfl) (by rfl) (fun h => by cases h) rfl
def ty11 : TyI := { und := .string, size := 1, bytes := 16, zero := (.str []), eqok := false, comp := true, methods := [⟨"Error", 104, #[], some (67, false)⟩, ⟨"RuntimeError", 1, #[], some (68, false)⟩] }
theorem tyOk11 : TyOk Try.prog 11 ty11 := TyOk.mk2 (z := (.string ⟨#[]⟩)) (ms := #[⟨"Error", 104, #[], some (67, false)⟩, ⟨"RuntimeError", 1, #[], some (68, false)⟩]) (by kernel_rfl) (by kernel_rfl) (by rfl) (by rfl) (fun h => by cases h) rfl
def ty12 : TyI := { und := (.int .u64), size := 1, bytes := 8, zero := (.int .u64 0), eqok := false, comp := true, methods := [] }
theorem tyOk12 : TyOk Try.prog 12 ty12 := TyOk.mk2 (z := (.int .u64 0)) (ms := #[]) (by kernel_rfl) (by kernel_rfl) (by rfl) (by rfl) (fun h => by cases h) rfl
def ty13 : TyI := { und := (.struct #[⟨"msg", 9, 0, false, "", "runtime", 0⟩, ⟨"addr", 12, 1, false, "", "runtime", 16⟩]), size := 2, bytes := 24, zero := (.agg [(.str []), (.int .u64 0)]), eqok := false, comp := true, methods := [] }
theorem tyOk13 : TyOk Try.prog 13 ty13 := TyOk.mk2 (z := (.agg #[(.string ⟨#[]⟩), (.int .u64 0)])) (ms := #[]) (by kernel_rfl) (by kernel_rfl) (by rfl) (by rfl) (fun h => by cases h) rfl
def ty14 : TyI := { und := (.struct #[⟨"msg", 9, 0, false, "", "runtime", 0⟩, ⟨"addr", 12, 1, false, "", "runtime", 16⟩]), size := 2, bytes := 24, zero := (.agg [(.str []), (.int .u64 0)]), eqok := false, comp := true, methods := [⟨"Error", 104, #[], some (69, false)⟩, ⟨"RuntimeError", 1, #[], some (70, false)⟩] }
theorem tyOk14 : TyOk Try.prog 14 ty14 := TyOk.mk2 (z := (.agg #[(.string ⟨#[]⟩), (.int .u64 0)])) (ms := #[⟨"Error", 104, #[], some (69, false)⟩, ⟨"RuntimeError", 1, #[], some (70, false)⟩]) (by kernel_rfl) (by kernel_rfl) (by rfl) (by rfl) (fun h => by cases h) rfl
def ty15 : TyI := { und := (.pointer 106), size := 1, bytes := 8, zero := .nilp, eqok := false, comp := true, methods := [⟨"Error", 104, #[], some (71, true)⟩, ⟨"RuntimeError", 1, #[], some (72, true)⟩] }
theorem tyOk15 : TyOk Try.prog 15 ty15 := TyOk.mk2 (z := (.pointer none)) (ms := #[⟨"Error", 104, #[], some (71, true)⟩, ⟨"RuntimeError", 1, #[], some (72, true)⟩]) (by kernel_rfl) (by kernel_rfl) (by rfl) (by rfl) (fun h => by cases h) rfl
def ty16 : TyI := { und := (.pointer 109), size := 1, bytes := 8, zero := .nilp, eqok := false, comp := true, methods := [⟨"Error", 104, #[], some (73, true)⟩, ⟨"RuntimeError", 1, #[], some (74, true)⟩] }
theorem tyOk16 : TyOk Try.prog 16 ty16 := TyOk.mk2 (z := (.pointer none)) (ms := #[⟨"Error", 104, #[], some (73, true)⟩, ⟨"RuntimeError", 1, #[], some (74, true)⟩]) (by kernel_rfl) (by kernel_rfl) (by rfl) (by rfl) (fun h => by cases h) rfl
def ty17 : TyI := { und := (.pointer 118), size := 1, bytes := 8, zero := .nilp, eqok := false, comp := true, methods := [⟨"Align", 36, #[], some (75, true)⟩, ⟨"Kind", 121, #[], some (79, true)⟩, ⟨"Size", 122, #[], some (80, true)⟩] }
theorem tyOk17 : TyOk Try.prog 17 ty17 := TyOk.mk2 (z := (.pointer none)) (ms := #[⟨"Align", 36, #[], some (75, true)⟩, ⟨"Kind", 121, #[], some (79, true)⟩, ⟨"Size", 122, #[], some (80, true)⟩]) (by kernel_rfl) (by kernel_rfl) (by rfl) (by rfl) (fun h => by cases h) rfl
def ty18 : TyI := { und := (.struct #[⟨"typ", 17, 0, false, "", "internal/runtime/maps", 0⟩]), size := 1, bytes := 8, zero := (.agg [.nilp]), eqok := false, comp := true, methods := [] }
theorem tyOk18 : TyOk Try.prog 18 ty18 := TyOk.mk2 (z := (.agg #[(.pointer none)])) (ms := #[]) (by kernel_rfl) (by kernel_rfl) (by rfl) (by rfl) (fun h => by cases h) rfl
def ty19 : TyI := { und := (.struct #[⟨"typ", 17, 0, false, "", "internal/runtime/maps", 0⟩]), size := 1, bytes := 8, zero := (.agg [.nilp]), eqok := false, comp := true, methods := [⟨"Error", 104, #[], some (76, false)⟩, ⟨"RuntimeError", 1, #[], some (77, false)⟩] }
theorem tyOk19 : TyOk Try.prog 19 ty19 := TyOk.mk2 (z := (.agg #[(.pointer none)])) (ms := #[⟨"Error", 104, #[], some (76, false)⟩, ⟨"RuntimeError", 1, #[], some (77, false)⟩]) (by kernel_rfl) (by kernel_rfl) (by rfl) (by rfl) (fun h => by cases h) rfl
def ty20 : TyI := { und := (.interface #[]), size := 1, bytes := 16, zero := .nili, eqok := false, comp := true, methods := [] }
theorem tyOk20 : TyOk Try.prog 20 ty20 := TyOk.mk2 (z := .nilIface) (ms := #[]) (by kernel_rfl) (by kernel_rfl) (by rfl) (by rfl) (fun h => by cases h) rfl
def ty21 : TyI := { und := (.int .i32), size := 1, bytes := 4, zero := (.int .i32 0), eqok := false, comp := true, methods := [] }
theorem tyOk21 : TyOk Try.prog 21 ty21 := TyOk.mk2 (z := (.int .i32 0)) (ms := #[]) (by kernel_rfl) (by kernel_rfl) (by rfl) (by rfl) (fun h => by cases h) rfl
def ty22 : TyI := { und := (.slice 27), size := 1, bytes := 24, zero := .nils, eqok := false, comp := false, methods := [] }
theorem tyOk22 : TyOk Try.prog 22 ty22 := TyOk.mk2 (z := (.slice none 0 0)) (ms := #[]) (by kernel_rfl) (by kernel_rfl) (by rfl) (by rfl) (fun h => by cases h) rfl
def ty23 : TyI := { und := (.slice 5), size := 1, bytes := 24, zero := .nils, eqok := false, comp := false, methods := [] }
theorem tyOk23 : TyOk Try.prog 23 ty23 := TyOk.mk2 (z := (.slice none 0 0)) (ms := #[]) (by kernel_rfl) (by kernel_rfl) (by rfl) (by rfl) (fun h => by cases h) rfl
def ty25 : TyI := { und := (.slice 9), size := 1, bytes := 24, zero := .nils, eqok := false, comp := false, methods := [] }
theorem tyOk25 : TyOk Try.prog 25 ty25 := TyOk.mk2 (z := (.slice none 0 0)) (ms := #[]) (by kernel_rfl) (by kernel_rfl) (by rfl) (by rfl) (fun h => by cases h) rfl
def ty26 : TyI := { und := (.struct #[⟨"Tag", 5, 0, false, "", "", 0⟩, ⟨"Body", 9, 1, false, "", "", 8⟩, ⟨"Kids", 22, 2, false, "", "", 24⟩]), size := 3, bytes := 48, zero := (.agg [(.int .u8 0), (.str []), .nils]), eqok := false, comp := false, methods := [] }
theorem tyOk26 : TyOk Try.prog 26 ty26 := TyOk.mk2 (z := (.agg #[(.int .u8 0), (.string ⟨#[]⟩), (.slice none 0 0)])) (ms := #[]) (by kernel_rfl) (by kernel_rfl) (by rfl) (by rfl) (fun h => by cases h) rfl
def ty27 : TyI := { und := (.struct #[⟨"Tag", 5, 0, false, "", "", 0⟩, ⟨"Body", 9, 1, false, "", "", 8⟩, ⟨"Kids", 22, 2, false, "", "", 24⟩]), size := 3, bytes := 48, zero := (.agg [(.int .u8 0), (.str []), .nils]), eqok := false, comp := false, methods := [] }
theorem tyOk27 : TyOk Try.prog 27 ty27 := TyOk.mk2 (z := (.agg #[(.int .u8 0), (.string ⟨#[]⟩), (.slice none 0 0)])) (ms := #[]) (by kernel_rfl) (by kernel_rfl) (by rfl) (by rfl) (fun h => by cases h) rfl
def ty30 : TyI := { und := (.pointer 68), size := 1, bytes := 8, zero := .nilp, eqok := false, comp := true, methods := [⟨"Copy", 31, #[], some (15, true)⟩, ⟨"Feed", 33, #[], some (12, true)⟩, ⟨"Left", 36, #[], some (14, true)⟩, ⟨"Next", 35, #[], some (13, true)⟩] }
theorem tyOk30 : TyOk Try.prog 30 ty30 := TyOk.mk2 (z := (.pointer none)) (ms := #[⟨"Copy", 31, #[], some (15, true)⟩, ⟨"Feed", 33, #[], some (12, true)⟩, ⟨"Left", 36, #[], some (14, true)⟩, ⟨"Next", 35, #[], some (13, true)⟩]) (by kernel_rfl) (by kernel_rfl) (by rfl) (by rfl) (fun h => by cases h) rfl
def ty32 : TyI := { und := (.int .i64), size := 1, bytes := 8, zero := (.int .i64 0), eqok := false, comp := true, methods := [⟨"Error", 104, #[], some (78, false)⟩] }
theorem tyOk32 : TyOk Try.prog 32 ty32 := TyOk.mk2 (z := (.int .i64 0)) (ms := #[⟨"Error", 104, #[], some (78, false)⟩]) (by kernel_rfl) (by kernel_rfl) (by rfl) (by rfl) (fun h => by cases h) rfl
def ty38 : TyI := { und := (.int .u16), size := 1, bytes := 2, zero := (.int .u16 0), eqok := false, comp := true, methods := [] }
theorem tyOk38 : TyOk Try.prog 38 ty38 := TyOk.mk2 (z := (.int .u16 0)) (ms := #[]) (by kernel_rfl) (by kernel_rfl) (by rfl) (by rfl) (fun h => by cases h) rfl
def ty39 : TyI := { und := (.int .u64), size := 1, bytes := 8, zero := (.int .u64 0), eqok := false, comp := true, methods := [] }
theorem tyOk39 : TyOk Try.prog 39 ty39 := TyOk.mk2 (z := (.int .u64 0)) (ms := #[]) (by kernel_rfl) (by kernel_rfl) (by rfl) (by rfl) (fun h => by cases h) rfl
def ty41 : TyI := { und := (.pointer 43), size := 1, bytes := 8, zero := .nilp, eqok := false, comp := true, methods := [⟨"Feed", 44, #[], some (16, true)⟩, ⟨"Next", 45, #[], some (17, true)⟩] }
theorem tyOk41 : TyOk Try.prog 41 ty41 := TyOk.mk2 (z := (.pointer none)) (ms := #[⟨"Feed", 44, #[], some (16, true)⟩, ⟨"Next", 45, #[], some (17, true)⟩]) (by kernel_rfl) (by kernel_rfl) (by rfl) (by rfl) (fun h => by cases h) rfl
def ty42 : TyI := { und := (.struct #[⟨"B", 9, 0, false, "", "", 0⟩]), size := 1, bytes := 16, zero := (.agg [(.str [])]), eqok := false, comp := true, methods := [] }
theorem tyOk42 : TyOk Try.prog 42 ty42 := TyOk.mk2 (z := (.agg #[(.string ⟨#[]⟩)])) (ms := #[]) (by kernel_rfl) (by kernel_rfl) (by rfl) (by rfl) (fun h => by cases h) rfl
def ty43 : TyI := { und := (.struct #[⟨"B", 9, 0, false, "", "", 0⟩]), size := 1, bytes := 16, zero := (.agg [(.str [])]), eqok := true, comp := true, methods := [] }
theorem tyOk43 : TyOk Try.prog 43 ty43 := TyOk.mk2 (z := (.agg #[(.string ⟨#[]⟩)])) (ms := #[]) (by kernel_rfl) (by kernel_rfl) (by rfl) (by rfl) (fun _ => ⟨by kernel_rfl, by kernel_rfl⟩) rfl
def ty47 : TyI := { und := (.slice 50), size := 1, bytes := 24, zero := .nils, eqok := false, comp := false, methods := [] }
theorem tyOk47 : TyOk Try.prog 47 ty47 := TyOk.mk2 (z := (.slice none 0 0)) (ms := #[]) (by kernel_rfl) (by kernel_rfl) (by rfl) (by rfl) (fun h => by cases h) rfl
def ty48 : TyI := { und := (.slice 50), size := 1, bytes := 24, zero := .nils, eqok := false, comp := false, methods := [] }
theorem tyOk48 : TyOk Try.prog 48 ty48 := TyOk.mk2 (z := (.slice none 0 0)) (ms := #[]) (by kernel_rfl) (by kernel_rfl) (by rfl) (by rfl) (fun h => by cases h) rfl
def ty49 : TyI := { und := (.struct #[⟨"Time", 2, 0, false, "", "", 0⟩, ⟨"Seq", 3, 1, false, "", "", 8⟩, ⟨"Rep", 3, 2, false, "", "", 16⟩]), size := 3, bytes := 24, zero := (.agg [(.int .i64 0), (.int .i64 0), (.int .i64 0)]), eqok := false, comp := true, methods := [] }
theorem tyOk49 : TyOk Try.prog 49 ty49 := TyOk.mk2 (z := (.agg #[(.int .i64 0), (.int .i64 0), (.int .i64 0)])) (ms := #[]) (by kernel_rfl) (by kernel_rfl) (by rfl) (by rfl) (fun h => by cases h) rfl
def ty50 : TyI := { und := (.struct #[⟨"Time", 2, 0, false, "", "", 0⟩, ⟨"Seq", 3, 1, false, "", "", 8⟩, ⟨"Rep", 3, 2, false, "", "", 16⟩]), size := 3, bytes := 24, zero := (.agg [(.int .i64 0), (.int .i64 0), (.int .i64 0)]), eqok := true, comp := true, methods := [] }
theorem tyOk50 : TyOk Try.prog 50 ty50 := TyOk.mk2 (z := (.agg #[(.int .i64 0), (.int .i64 0), (.int .i64 0)])) (ms := #[]) (by kernel_rfl) (by kernel_rfl) (by rfl) (by rfl) (fun _ => ⟨by kernel_rfl, by kernel_rfl⟩) rfl
def ty61 : TyI := { und := (.array 3 50), size := 9, bytes := 72, zero := (.agg [(.int .i64 0), (.int .i64 0), (.int .i64 0), (.int .i64 0), (.int .i64 0), (.int .i64 0), (.int .i64 0), (.int .i64 0), (.int .i64 0)]), eqok := false, comp := true, methods := [] }
theorem tyOk61 : TyOk Try.prog 61 ty61 := TyOk.mk2 (z := (.agg #[(.int .i64 0), (.int .i64 0), (.int .i64 0), (.int .i64 0), (.int .i64 0), (.int .i64 0), (.int .i64 0), (.int .i64 0), (.int .i64 0)])) (ms := #[]) (by kernel_rfl) (by kernel_rfl) (by rfl) (by rfl) (fun h => by cases h) rfl
def ty67 : TyI := { und := (.struct #[⟨"s", 9, 0, false, "", "prefect/frame", 0⟩]), size := 1, bytes := 16, zero := (.agg [(.str [])]), eqok := false, comp := true, methods := [] }
theorem tyOk67 : TyOk Try.prog 67 ty67 := TyOk.mk2 (z := (.agg #[(.string ⟨#[]⟩)])) (ms := #[]) (by kernel_rfl) (by kernel_rfl) (by rfl) (by rfl) (fun h => by cases h) rfl
def ty68 : TyI := { und := (.struct #[⟨"s", 9, 0, false, "", "prefect/frame", 0⟩]), size := 1, bytes := 16, zero := (.agg [(.str [])]), eqok := true, comp := true, methods := [] }
theorem tyOk68 : TyOk Try.prog 68 ty68 := TyOk.mk2 (z := (.agg #[(.string ⟨#[]⟩)])) (ms := #[]) (by kernel_rfl) (by kernel_rfl) (by rfl) (by rfl) (fun _ => ⟨by kernel_rfl, by kernel_rfl⟩) rfl
def ty81 : TyI := { und := (.interface #[("Error", 104)]), size := 1, bytes := 16, zero := .nili, eqok := false, comp := true, methods := [] }
theorem tyOk81 : TyOk Try.prog 81 ty81 := TyOk.mk2 (z := .nilIface) (ms := #[]) (by kernel_rfl) (by kernel_rfl) (by rfl) (by rfl) (fun h => by cases h) rfl
def ty82 : TyI := { und := (.interface #[("Error", 104)]), size := 1, bytes := 16, zero := .nili, eqok := false, comp := true, methods := [] }
theorem tyOk82 : TyOk Try.prog 82 ty82 := TyOk.mk2 (z := .nilIface) (ms := #[]) (by kernel_rfl) (by kernel_rfl) (by rfl) (by rfl) (fun h => by cases h) rfl
def ty83 : TyI := { und := (.interface #[("AssignableTo", 119), ("Comparable", 24), ("Elem", 120), ("Implements", 119), ("Kind", 121), ("Name", 104), ("PkgPath", 104), ("Size", 122), ("String", 104), ("internal/reflectlite.common", 123), ("internal/reflectlite.uncommon", 124)]), size := 1, bytes := 16, zero := .nili, eqok := false, comp := true, methods := [] }
theorem tyOk83 : TyOk Try.prog 83 ty83 := TyOk.mk2 (z := .nilIface) (ms := #[]) (by kernel_rfl) (by kernel_rfl) (by rfl) (by rfl) (fun h => by cases h) rfl
def ty84 : TyI := { und := (.interface #[("AssignableTo", 119), ("Comparable", 24), ("Elem", 120), ("Implements", 119), ("Kind", 121), ("Name", 104), ("PkgPath", 104), ("Size", 122), ("String", 104), ("internal/reflectlite.common", 123), ("internal/reflectlite.uncommon", 124)]), size := 1, bytes := 16, zero := .nili, eqok := false, comp := true, methods := [] }
theorem tyOk84 : TyOk Try.prog 84 ty84 := TyOk.mk2 (z := .nilIface) (ms := #[]) (by kernel_rfl) (by kernel_rfl) (by rfl) (by rfl) (fun h => by cases h) rfl
def ty90 : TyI := { und := (.struct #[⟨"Type", 17, 0, true, "", "", 0⟩]), size := 1, bytes := 8, zero := (.agg [.nilp]), eqok := false, comp := true, methods := [⟨"Align", 36, #[⟨90, 0, false⟩], some (75, true)⟩, ⟨"Kind", 121, #[⟨90, 0, false⟩], some (79, true)⟩, ⟨"Size", 122, #[⟨90, 0, false⟩], some (80, true)⟩] }
theorem tyOk90 : TyOk Try.prog 90 ty90 := TyOk.mk2 (z := (.agg #[(.pointer none)])) (ms := #[⟨"Align", 36, #[⟨90, 0, false⟩], some (75, true)⟩, ⟨"Kind", 121, #[⟨90, 0, false⟩], some (79, true)⟩, ⟨"Size", 122, #[⟨90, 0, false⟩], some (80, true)⟩]) (by kernel_rfl) (by kernel_rfl) (by rfl) (by rfl) (fun h => by cases h) rfl
def ty91 : TyI := { und := (.struct #[⟨"Type", 17, 0, true, "", "", 0⟩]), size := 1, bytes := 8, zero := (.agg [.nilp]), eqok := false, comp := true, methods := [⟨"Align", 36, #[⟨91, 0, false⟩], some (75, true)⟩, ⟨"AssignableTo", 119, #[], some (81, false)⟩, ⟨"Comparable", 24, #[], some (82, false)⟩, ⟨"Elem", 120, #[], some (83, false)⟩, ⟨"Implements", 119, #[], some (84, false)⟩, ⟨"Kind", 121, #[⟨91, 0, false⟩], some (79, true)⟩, ⟨"Name", 104, #[], some (85, false)⟩, ⟨"PkgPath", 104, #[], some (86, false)⟩, ⟨"Size", 122, #[⟨91, 0, false⟩], some (80, true)⟩, ⟨"String", 104, #[], some (87, false)⟩, ⟨"internal/reflectlite.common", 123, #[], some (88, false)⟩, ⟨"internal/reflectlite.uncommon", 124, #[], some (89, false)⟩] }
theorem tyOk91 : TyOk Try.prog 91 ty91 := TyOk.mk2 (z := (.agg #[(.pointer none)])) (ms := #[⟨"Align", 36, #[⟨91, 0, false⟩], some (75, true)⟩, ⟨"AssignableTo", 119, #[], some (81, false)⟩, ⟨"Comparable", 24, #[], some (82, false)⟩, ⟨"Elem", 120, #[], some (83, false)⟩, ⟨"Implements", 119, #[], some (84, false)⟩, ⟨"Kind", 121, #[⟨91, 0, false⟩], some (79, true)⟩, ⟨"Name", 104, #[], some (85, false)⟩, ⟨"PkgPath", 104, #[], some (86, false)⟩, ⟨"Size", 122, #[⟨91, 0, false⟩], some (80, true)⟩, ⟨"String", 104, #[], some (87, false)⟩, ⟨"internal/reflectlite.common", 123, #[], some (88, false)⟩, ⟨"internal/reflectlite.uncommon", 124, #[], some (89, false)⟩]) (by kernel_rfl) (by kernel_rfl) (by rfl) (by rfl) (fun h => by cases h) rfl
def ty92 : TyI := { und := (.pointer 126), size := 1, bytes := 8, zero := .nilp, eqok := false, comp := true, methods := [⟨"Error", 104, #[], some (90, true)⟩] }
theorem tyOk92 : TyOk Try.prog 92 ty92 := TyOk.mk2 (z := (.pointer none)) (ms := #[⟨"Error", 104, #[], some (90, true)⟩]) (by kernel_rfl) (by kernel_rfl) (by rfl) (by rfl) (fun h => by cases h) rfl
def ty93 : TyI := { und := (.interface #[("Is", 95)]), size := 1, bytes := 16, zero := .nili, eqok := false, comp := true, methods := [] }
theorem tyOk93 : TyOk Try.prog 93 ty93 := TyOk.mk2 (z := .nilIface) (ms := #[]) (by kernel_rfl) (by kernel_rfl) (by rfl) (by rfl) (fun h => by cases h) rfl
def ty96 : TyI := { und := (.interface #[("Unwrap", 97)]), size := 1, bytes := 16, zero := .nili, eqok := false, comp := true, methods := [] }
theorem tyOk96 : TyOk Try.prog 96 ty96 := TyOk.mk2 (z := .nilIface) (ms := #[]) (by kernel_rfl) (by kernel_rfl) (by rfl) (by rfl) (fun h => by cases h) rfl
def ty98 : TyI := { und := (.interface #[("Unwrap", 100)]), size := 1, bytes := 16, zero := .nili, eqok := false, comp := true, methods := [] }
theorem tyOk98 : TyOk Try.prog 98 ty98 := TyOk.mk2 (z := .nilIface) (ms := #[]) (by kernel_rfl) (by kernel_rfl) (by rfl) (by rfl) (fun h => by cases h) rfl
def ty99 : TyI := { und := (.slice 82), size := 1, bytes := 24, zero := .nils, eqok := false, comp := false, methods := [] }
theorem tyOk99 : TyOk Try.prog 99 ty99 := TyOk.mk2 (z := (.slice none 0 0)) (ms := #[]) (by kernel_rfl) (by kernel_rfl) (by rfl) (by rfl) (fun h => by cases h) rfl
def ty101 : TyI := { und := (.slice 3), size := 1, bytes := 24, zero := .nils, eqok := false, comp := false, methods := [] }
theorem tyOk101 : TyOk Try.prog 101 ty101 := TyOk.mk2 (z := (.slice none 0 0)) (ms := #[]) (by kernel_rfl) (by kernel_rfl) (by rfl) (by rfl) (fun h => by cases h) rfl
def ty105 : TyI := { und := (.struct #[⟨"_interface", 17, 0, false, "", "runtime", 0⟩, ⟨"concrete", 17, 1, false, "", "runtime", 8⟩, ⟨"asserted", 17, 2, false, "", "runtime", 16⟩, ⟨"missingMethod", 9, 3, false, "", "runtime", 24⟩]), size := 4, bytes := 40, zero := (.agg [.nilp, .nilp, .nilp, (.str [])]), eqok := false, comp := true, methods := [] }
theorem tyOk105 : TyOk Try.prog 105 ty105 := TyOk.mk2 (z := (.agg #[(.pointer none), (.pointer none), (.pointer none), (.string ⟨#[]⟩)])) (ms := #[]) (by kernel_rfl) (by kernel_rfl) (by rfl) (by rfl) (fun h => by cases h) rfl
def ty106 : TyI := { und := (.struct #[⟨"_interface", 17, 0, false, "", "runtime", 0⟩, ⟨"concrete", 17, 1, false, "", "runtime", 8⟩, ⟨"asserted", 17, 2, false, "", "runtime", 16⟩, ⟨"missingMethod", 9, 3, false, "", "runtime", 24⟩]), size := 4, bytes := 40, zero := (.agg [.nilp, .nilp, .nilp, (.str [])]), eqok := false, comp := true, methods := [] }
theorem tyOk106 : TyOk Try.prog 106 ty106 := TyOk.mk2 (z := (.agg #[(.pointer none), (.pointer none), (.pointer none), (.string ⟨#[]⟩)])) (ms := #[]) (by kernel_rfl) (by kernel_rfl) (by rfl) (by rfl) (fun h => by cases h) rfl
def ty107 : TyI := { und := (.array 0 16), size := 0, bytes := 0, zero := (.agg []), eqok := false, comp := true, methods := [] }
theorem tyOk107 : TyOk Try.prog 107 ty107 := TyOk.mk2 (z := (.agg #[])) (ms := #[]) (by kernel_rfl) (by kernel_rfl) (by rfl) (by rfl) (fun h => by cases h) rfl
def ty108 : TyI := { und := (.struct #[⟨"_", 107, 0, false, "", "runtime", 0⟩]), size := 0, bytes := 0, zero := (.agg []), eqok := false, comp := true, methods := [] }
theorem tyOk108 : TyOk Try.prog 108 ty108 := TyOk.mk2 (z := (.agg #[])) (ms := #[]) (by kernel_rfl) (by kernel_rfl) (by rfl) (by rfl) (fun h => by cases h) rfl
def ty109 : TyI := { und := (.struct #[⟨"_", 107, 0, false, "", "runtime", 0⟩]), size := 0, bytes := 0, zero := (.agg []), eqok := false, comp := true, methods := [] }
theorem tyOk109 : TyOk Try.prog 109 ty109 := TyOk.mk2 (z := (.agg #[])) (ms := #[]) (by kernel_rfl) (by kernel_rfl) (by rfl) (by rfl) (fun h => by cases h) rfl
def ty110 : TyI := { und := (.int .u32), size := 1, bytes := 4, zero := (.int .u32 0), eqok := false, comp := true, methods := [] }
theorem tyOk110 : TyOk Try.prog 110 ty110 := TyOk.mk2 (z := (.int .u32 0)) (ms := #[]) (by kernel_rfl) (by kernel_rfl) (by rfl) (by rfl) (fun h => by cases h) rfl
def ty111 : TyI := { und := (.int .u8), size := 1, bytes := 1, zero := (.int .u8 0), eqok := false, comp := true, methods := [] }
theorem tyOk111 : TyOk Try.prog 111 ty111 := TyOk.mk2 (z := (.int .u8 0)) (ms := #[]) (by kernel_rfl) (by kernel_rfl) (by rfl) (by rfl) (fun h => by cases h) rfl
def ty112 : TyI := { und := (.int .u8), size := 1, bytes := 1, zero := (.int .u8 0), eqok := false, comp := true, methods := [⟨"String", 104, #[], some (91, false)⟩] }
theorem tyOk112 : TyOk Try.prog 112 ty112 := TyOk.mk2 (z := (.int .u8 0)) (ms := #[⟨"String", 104, #[], some (91, false)⟩]) (by kernel_rfl) (by kernel_rfl) (by rfl) (by rfl) (fun h => by cases h) rfl
def ty114 : TyI := { und := (.pointer 5), size := 1, bytes := 8, zero := .nilp, eqok := false, comp := true, methods := [] }
theorem tyOk114 : TyOk Try.prog 114 ty114 := TyOk.mk2 (z := (.pointer none)) (ms := #[]) (by kernel_rfl) (by kernel_rfl) (by rfl) (by rfl) (fun h => by cases h) rfl
def ty115 : TyI := { und := (.int .i32), size := 1, bytes := 4, zero := (.int .i32 0), eqok := false, comp := true, methods := [] }
theorem tyOk115 : TyOk Try.prog 115 ty115 := TyOk.mk2 (z := (.int .i32 0)) (ms := #[]) (by kernel_rfl) (by kernel_rfl) (by rfl) (by rfl) (fun h => by cases h) rfl
def ty116 : TyI := { und := (.int .i32), size := 1, bytes := 4, zero := (.int .i32 0), eqok := false, comp := true, methods := [] }
theorem tyOk116 : TyOk Try.prog 116 ty116 := TyOk.mk2 (z := (.int .i32 0)) (ms := #[]) (by kernel_rfl) (by kernel_rfl) (by rfl) (by rfl) (fun h => by cases h) rfl
def ty117 : TyI := { und := (.struct #[⟨"Size_", 12, 0, false, "", "", 0⟩, ⟨"PtrBytes", 12, 1, false, "", "", 8⟩, ⟨"Hash", 110, 2, false, "", "", 16⟩, ⟨"TFlag", 111, 3, false, "", "", 20⟩, ⟨"Align_", 5, 4, false, "", "", 21⟩, ⟨"FieldAlign_", 5, 5, false, "", "", 22⟩, ⟨"Kind_", 112, 6, false, "", "", 23⟩, ⟨"Equal", 113, 7, false, "", "", 24⟩, ⟨"GCData", 114, 8, false, "", "", 32⟩, ⟨"Str", 115, 9, false, "", "", 40⟩, ⟨"PtrToThis", 116, 10, false, "", "", 44⟩]), size := 11, bytes := 48, zero := (.agg [(.int .u64 0), (.int .u64 0), (.int .u32 0), (.int .u8 0), (.int .u8 0), (.int .u8 0), (.int .u8 0), .nilf, .nilp, (.int .i32 0), (.int .i32 0)]), eqok := false, comp := false, methods := [] }
theorem tyOk117 : TyOk Try.prog 117 ty117 := TyOk.mk2 (z := (.agg #[(.int .u64 0), (.int .u64 0), (.int .u32 0), (.int .u8 0), (.int .u8 0), (.int .u8 0), (.int .u8 0), .nilFunc, (.pointer none), (.int .i32 0), (.int .i32 0)])) (ms := #[]) (by kernel_rfl) (by kernel_rfl) (by rfl) (by rfl) (fun h => by cases h) rfl
def ty118 : TyI := { und := (.struct #[⟨"Size_", 12, 0, false, "", "", 0⟩, ⟨"PtrBytes", 12, 1, false, "", "", 8⟩, ⟨"Hash", 110, 2, false, "", "", 16⟩, ⟨"TFlag", 111, 3, false, "", "", 20⟩, ⟨"Align_", 5, 4, false, "", "", 21⟩, ⟨"FieldAlign_", 5, 5, false, "", "", 22⟩, ⟨"Kind_", 112, 6, false, "", "", 23⟩, ⟨"Equal", 113, 7, false, "", "", 24⟩, ⟨"GCData", 114, 8, false, "", "", 32⟩, ⟨"Str", 115, 9, false, "", "", 40⟩, ⟨"PtrToThis", 116, 10, false, "", "", 44⟩]), size := 11, bytes := 48, zero := (.agg [(.int .u64 0), (.int .u64 0), (.int .u32 0), (.int .u8 0), (.int .u8 0), (.int .u8 0), (.int .u8 0), .nilf, .nilp, (.int .i32 0), (.int .i32 0)]), eqok := false, comp := false, methods := [] }
theorem tyOk118 : TyOk Try.prog 118 ty118 := TyOk.mk2 (z := (.agg #[(.int .u64 0), (.int .u64 0), (.int .u32 0), (.int .u8 0), (.int .u8 0), (.int .u8 0), (.int .u8 0), .nilFunc, (.pointer none), (.int .i32 0), (.int .i32 0)])) (ms := #[]) (by kernel_rfl) (by kernel_rfl) (by rfl) (by rfl) (fun h => by cases h) rfl
def ty125 : TyI := { und := (.struct #[⟨"Method", 9, 0, false, "", "", 0⟩, ⟨"Kind", 112, 1, false, "", "", 16⟩]), size := 2, bytes := 24, zero := (.agg [(.str []), (.int .u8 0)]), eqok := false, comp := true, methods := [] }
theorem tyOk125 : TyOk Try.prog 125 ty125 := TyOk.mk2 (z := (.agg #[(.string ⟨#[]⟩), (.int .u8 0)])) (ms := #[]) (by kernel_rfl) (by kernel_rfl) (by rfl) (by rfl) (fun h => by cases h) rfl
def ty126 : TyI := { und := (.struct #[⟨"Method", 9, 0, false, "", "", 0⟩, ⟨"Kind", 112, 1, false, "", "", 16⟩]), size := 2, bytes := 24, zero := (.agg [(.str []), (.int .u8 0)]), eqok := false, comp := true, methods := [] }
theorem tyOk126 : TyOk Try.prog 126 ty126 := TyOk.mk2 (z := (.agg #[(.string ⟨#[]⟩), (.int .u8 0)])) (ms := #[]) (by kernel_rfl) (by kernel_rfl) (by rfl) (by rfl) (fun h => by cases h) rfl
def ty127 : TyI := { und := .unsafePointer, size := 1, bytes := 8, zero := .nilp, eqok := false, comp := true, methods := [] }
theorem tyOk127 : TyOk Try.prog 127 ty127 := TyOk.mk2 (z := (.pointer none)) (ms := #[]) (by kernel_rfl) (by kernel_rfl) (by rfl) (by rfl) (fun h => by cases h) rfl
def ty128 : TyI := { und := (.pointer 131), size := 1, bytes := 8, zero := .nilp, eqok := false, comp := true, methods := [⟨"ExportedMethods", 129, #[], some (92, true)⟩] }
theorem tyOk128 : TyOk Try.prog 128 ty128 := TyOk.mk2 (z := (.pointer none)) (ms := #[⟨"ExportedMethods", 129, #[], some (92, true)⟩]) (by kernel_rfl) (by kernel_rfl) (by rfl) (by rfl) (fun h => by cases h) rfl
def ty130 : TyI := { und := (.struct #[⟨"PkgPath", 115, 0, false, "", "", 0⟩, ⟨"Mcount", 38, 1, false, "", "", 4⟩, ⟨"Xcount", 38, 2, false, "", "", 6⟩, ⟨"Moff", 110, 3, false, "", "", 8⟩, ⟨"_", 110, 4, false, "", "internal/abi", 12⟩]), size := 5, bytes := 16, zero := (.agg [(.int .i32 0), (.int .u16 0), (.int .u16 0), (.int .u32 0), (.int .u32 0)]), eqok := false, comp := true, methods := [] }
theorem tyOk130 : TyOk Try.prog 130 ty130 := TyOk.mk2 (z := (.agg #[(.int .i32 0), (.int .u16 0), (.int .u16 0), (.int .u32 0), (.int .u32 0)])) (ms := #[]) (by kernel_rfl) (by kernel_rfl) (by rfl) (by rfl) (fun h => by cases h) rfl
def ty131 : TyI := { und := (.struct #[⟨"PkgPath", 115, 0, false, "", "", 0⟩, ⟨"Mcount", 38, 1, false, "", "", 4⟩, ⟨"Xcount", 38, 2, false, "", "", 6⟩, ⟨"Moff", 110, 3, false, "", "", 8⟩, ⟨"_", 110, 4, false, "", "internal/abi", 12⟩]), size := 5, bytes := 16, zero := (.agg [(.int .i32 0), (.int .u16 0), (.int .u16 0), (.int .u32 0), (.int .u32 0)]), eqok := false, comp := true, methods := [] }
theorem tyOk131 : TyOk Try.prog 131 ty131 := TyOk.mk2 (z := (.agg #[(.int .i32 0), (.int .u16 0), (.int .u16 0), (.int .u32 0), (.int .u32 0)])) (ms := #[]) (by kernel_rfl) (by kernel_rfl) (by rfl) (by rfl) (fun h => by cases h) rfl
def ty132 : TyI := { und := (.slice 135), size := 1, bytes := 24, zero := .nils, eqok := false, comp := false, methods := [] }
theorem tyOk132 : TyOk Try.prog 132 ty132 := TyOk.mk2 (z := (.slice none 0 0)) (ms := #[]) (by kernel_rfl) (by kernel_rfl) (by rfl) (by rfl) (fun h => by cases h) rfl
def ty133 : TyI := { und := (.int .i32), size := 1, bytes := 4, zero := (.int .i32 0), eqok := false, comp := true, methods := [] }
theorem tyOk133 : TyOk Try.prog 133 ty133 := TyOk.mk2 (z := (.int .i32 0)) (ms := #[]) (by kernel_rfl) (by kernel_rfl) (by rfl) (by rfl) (fun h => by cases h) rfl
def ty134 : TyI := { und := (.struct #[⟨"Name", 115, 0, false, "", "", 0⟩, ⟨"Mtyp", 116, 1, false, "", "", 4⟩, ⟨"Ifn", 133, 2, false, "", "", 8⟩, ⟨"Tfn", 133, 3, false, "", "", 12⟩]), size := 4, bytes := 16, zero := (.agg [(.int .i32 0), (.int .i32 0), (.int .i32 0), (.int .i32 0)]), eqok := false, comp := true, methods := [] }
theorem tyOk134 : TyOk Try.prog 134 ty134 := TyOk.mk2 (z := (.agg #[(.int .i32 0), (.int .i32 0), (.int .i32 0), (.int .i32 0)])) (ms := #[]) (by kernel_rfl) (by kernel_rfl) (by rfl) (by rfl) (fun h => by cases h) rfl
def ty135 : TyI := { und := (.struct #[⟨"Name", 115, 0, false, "", "", 0⟩, ⟨"Mtyp", 116, 1, false, "", "", 4⟩, ⟨"Ifn", 133, 2, false, "", "", 8⟩, ⟨"Tfn", 133, 3, false, "", "", 12⟩]), size := 4, bytes := 16, zero := (.agg [(.int .i32 0), (.int .i32 0), (.int .i32 0), (.int .i32 0)]), eqok := false, comp := true, methods := [] }
theorem tyOk135 : TyOk Try.prog 135 ty135 := TyOk.mk2 (z := (.agg #[(.int .i32 0), (.int .i32 0), (.int .i32 0), (.int .i32 0)])) (ms := #[]) (by kernel_rfl) (by kernel_rfl) (by rfl) (by rfl) (fun h => by cases h) rfl
def tyOf : TypeId → Option TyI
  | 2 => some ty2
  | 3 => some ty3
  | 4 => some ty4
  | 5 => some ty5
  | 6 => some ty6
  | 7 => some ty7
  | 8 => some ty8
  | 9 => some ty9
  | 10 => some ty10
  | 11 => some ty11
  | 12 => some ty12
  | 13 => some ty13
  | 14 => some ty14
  | 15 => some ty15
  | 16 => some ty16
  | 17 => some ty17
  | 18 => some ty18
  | 19 => some ty19
  | 20 => some ty20
  | 21 => some ty21
  | 22 => some ty22
  | 23 => some ty23
  | 25 => some ty25
  | 26 => some ty26
  | 27 => some ty27
  | 30 => some ty30
  | 32 => some ty32
  | 38 => some ty38
  | 39 => some ty39
  | 41 => some ty41
  | 42 => some ty42
  | 43 => some ty43
  | 47 => some ty47
  | 48 => some ty48
  | 49 => some ty49
  | 50 => some ty50
  | 61 => some ty61
  | 67 => some ty67
  | 68 => some ty68
  | 81 => some ty81
  | 82 => some ty82
  | 83 => some ty83
  | 84 => some ty84
  | 90 => some ty90
  | 91 => some ty91
  | 92 => some ty92
  | 93 => some ty93
  | 96 => some ty96
  | 98 => some ty98
  | 99 => some ty99
  | 101 => some ty101
  | 105 => some ty105
  | 106 => some ty106
  | 107 => some ty107
  | 108 => some ty108
  | 109 => some ty109
  | 110 => some ty110
  | 111 => some ty111
  | 112 => some ty112
  | 114 => some ty114
  | 115 => some ty115
  | 116 => some ty116
  | 117 => some ty117
  | 118 => some ty118
  | 125 => some ty125
  | 126 => some ty126
  | 127 => some ty127
  | 128 => some ty128
  | 130 => some ty130
  | 131 => some ty131
  | 132 => some ty132
  | 133 => some ty133
  | 134 => some ty134
  | 135 => some ty135
  | _ => none
def ctx : Ctx := ⟨tyOf, fun _ => false⟩
theorem ctxOk : CtxTy Try.prog ctx := ⟨by
  intro t ti h
  unfold ctx tyOf at h
  simp only at h
  split at h <;> first | (injection h with h; subst h; first | exact tyOk2 | exact tyOk3 | exact tyOk4 | exact tyOk5 | exact tyOk6 | exact tyOk7 | exact tyOk8 | exact tyOk9 | exact tyOk10 | exact tyOk11 | exact tyOk12 | exact tyOk13 | exact tyOk14 | exact tyOk15 | exact tyOk16 | exact tyOk17 | exact tyOk18 | exact tyOk19 | exact tyOk20 | exact tyOk21 | exact tyOk22 | exact tyOk23 | exact tyOk25 | exact tyOk26 | exact tyOk27 | exact tyOk30 | exact tyOk32 | exact tyOk38 | exact tyOk39 | exact tyOk41 | exact tyOk42 | exact tyOk43 | exact tyOk47 | exact tyOk48 | exact tyOk49 | exact tyOk50 | exact tyOk61 | exact tyOk67 | exact tyOk68 | exact tyOk81 | exact tyOk82 | exact tyOk83 | exact tyOk84 | exact tyOk90 | exact tyOk91 | exact tyOk92 | exact tyOk93 | exact tyOk96 | exact tyOk98 | exact tyOk99 | exact tyOk101 | exact tyOk105 | exact tyOk106 | exact tyOk107 | exact tyOk108 | exact tyOk109 | exact tyOk110 | exact tyOk111 | exact tyOk112 | exact tyOk114 | exact tyOk115 | exact tyOk116 | exact tyOk117 | exact tyOk118 | exact tyOk125 | exact tyOk126 | exact tyOk127 | exact tyOk128 | exact tyOk130 | exact tyOk131 | exact tyOk132 | exact tyOk133 | exact tyOk134 | exact tyOk135) | cases h⟩
end Go.Proofs.Ythcchjhieolflaa.M
