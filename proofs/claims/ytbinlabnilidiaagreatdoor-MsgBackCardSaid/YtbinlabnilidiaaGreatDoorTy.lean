/- The types, as the abstract machine has them (made by a program of mine, gen.py). -/
import Derived.Test.YtbinlabnilidiaaGreatDoorPamM2
import Derived.Test.YtbinlabnilidiaaGreatDoorProg
namespace Go.Proofs.YtbinlabnilidiaaGreatDoor.M
set_option linter.unusedVariables false
set_option linter.unusedSimpArgs false
open Go Go.Pam

def ty2 : TyI := { und := (.int .i64), size := 1, bytes := 8, zero := (.int .i64 0), eqok := false, comp := true, methods := [] }
theorem tyOk2 : TyOk Tryz.prog 2 ty2 := TyOk.mk2 (z := (.int .i64 0)) (ms := #[]) (by kernel_rfl) (by kernel_rfl) (by rfl) (by rfl) (fun h => by cases h) rfl
def ty3 : TyI := { und := (.int .i64), size := 1, bytes := 8, zero := (.int .i64 0), eqok := false, comp := true, methods := [] }
theorem tyOk3 : TyOk Tryz.prog 3 ty3 := TyOk.mk2 (z := (.int .i64 0)) (ms := #[]) (by kernel_rfl) (by kernel_rfl) (by rfl) (by rfl) (fun h => by cases h) rfl
def ty4 : TyI := { und := .bool, size := 1, bytes := 1, zero := (.bool false), eqok := false, comp := true, methods := [] }
theorem tyOk4 : TyOk Tryz.prog 4 ty4 := TyOk.mk2 (z := (.bool false)) (ms := #[]) (by kernel_rfl) (by kernel_rfl) (by rfl) (by rfl) (fun h => by cases h) rfl
def ty5 : TyI := { und := (.int .u8), size := 1, bytes := 1, zero := (.int .u8 0), eqok := false, comp := true, methods := [] }
theorem tyOk5 : TyOk Tryz.prog 5 ty5 := TyOk.mk2 (z := (.int .u8 0)) (ms := #[]) (by kernel_rfl) (by kernel_rfl) (by rfl) (by rfl) (fun h => by cases h) rfl
def ty6 : TyI := { und := (.int .u8), size := 1, bytes := 1, zero := (.int .u8 0), eqok := false, comp := true, methods := [] }
theorem tyOk6 : TyOk Tryz.prog 6 ty6 := TyOk.mk2 (z := (.int .u8 0)) (ms := #[]) (by kernel_rfl) (by kernel_rfl) (by rfl) (by rfl) (fun h => by cases h) rfl
def ty7 : TyI := { und := (.struct #[⟨"x", 2, 0, false, "", "runtime", 0⟩, ⟨"y", 3, 1, false, "", "runtime", 8⟩, ⟨"signed", 4, 2, false, "", "runtime", 16⟩, ⟨"code", 6, 3, false, "", "runtime", 17⟩]), size := 4, bytes := 24, zero := (.agg [(.int .i64 0), (.int .i64 0), (.bool false), (.int .u8 0)]), eqok := false, comp := true, methods := [] }
theorem tyOk7 : TyOk Tryz.prog 7 ty7 := TyOk.mk2 (z := (.agg #[(.int .i64 0), (.int .i64 0), (.bool false), (.int .u8 0)])) (ms := #[]) (by kernel_rfl) (by kernel_rfl) (by rfl) (by rfl) (fun h => by cases h) rfl
def ty8 : TyI := { und := (.struct #[⟨"x", 2, 0, false, "", "runtime", 0⟩, ⟨"y", 3, 1, false, "", "runtime", 8⟩, ⟨"signed", 4, 2, false, "", "runtime", 16⟩, ⟨"code", 6, 3, false, "", "runtime", 17⟩]), size := 4, bytes := 24, zero := (.agg [(.int .i64 0), (.int .i64 0), (.bool false), (.int .u8 0)]), eqok := false, comp := true, methods := [⟨"Error", 163, #[], some (118, false)⟩, ⟨"RuntimeError", 1, #[], some (119, false)⟩] }
theorem tyOk8 : TyOk Tryz.prog 8 ty8 := TyOk.mk2 (z := (.agg #[(.int .i64 0), (.int .i64 0), (.bool false), (.int .u8 0)])) (ms := #[⟨"Error", 163, #[], some (118, false)⟩, ⟨"RuntimeError", 1, #[], some (119, false)⟩]) (by kernel_rfl) (by kernel_rfl) (by rfl) (by rfl) (fun h => by cases h) rfl
def ty9 : TyI := { und := .string, size := 1, bytes := 16, zero := (.str []), eqok := false, comp := true, methods := [] }
theorem tyOk9 : TyOk Tryz.prog 9 ty9 := TyOk.mk2 (z := (.string ⟨#[]⟩)) (ms := #[]) (by kernel_rfl) (by kernel_rfl) (by rfl) (by rfl) (fun h => by cases h) rfl
def ty10 : TyI := { und := .string, size := 1, bytes := 16, zero := (.str []), eqok := false, comp := true, methods := [⟨"Error", 163, #[], some (120, false)⟩, ⟨"RuntimeError", 1, #[], some (121, false)⟩] }
theorem tyOk10 : TyOk Tryz.prog 10 ty10 := TyOk.mk2 (z := (.string ⟨#[]⟩)) (ms := #[⟨"Error", 163, #[], some (120, false)⟩, ⟨"RuntimeError", 1, #[], some (121, false)⟩]) (by kernel_rfl) (by kernel_rfl) (by rfl) (by rfl) (fun h => by cases h) rfl
def ty11 : TyI := { und := .string, size := 1, bytes := 16, zero := (.str []), eqok := false, comp := true, methods := [⟨"Error", 163, #[], some (122, false)⟩, ⟨"RuntimeError", 1, #[], some (123, false)⟩] }
theorem tyOk11 : TyOk Tryz.prog 11 ty11 := TyOk.mk2 (z := (.string ⟨#[]⟩)) (ms := #[⟨"Error", 163, #[], some (122, false)⟩, ⟨"RuntimeError", 1, #[], some (123, false)⟩]) (by kernel_rfl) (by kernel_rfl) (by rfl) (by rfl) (fun h => by cases h) rfl
def ty12 : TyI := { und := (.int .u64), size := 1, bytes := 8, zero := (.int .u64 0), eqok := false, comp := true, methods := [] }
theorem tyOk12 : TyOk Tryz.prog 12 ty12 := TyOk.mk2 (z := (.int .u64 0)) (ms := #[]) (by kernel_rfl) (by kernel_rfl) (by rfl) (by rfl) (fun h => by cases h) rfl
def ty13 : TyI := { und := (.struct #[⟨"msg", 9, 0, false, "", "runtime", 0⟩, ⟨"addr", 12, 1, false, "", "runtime", 16⟩]), size := 2, bytes := 24, zero := (.agg [(.str []), (.int .u64 0)]), eqok := false, comp := true, methods := [] }
theorem tyOk13 : TyOk Tryz.prog 13 ty13 := TyOk.mk2 (z := (.agg #[(.string ⟨#[]⟩), (.int .u64 0)])) (ms := #[]) (by kernel_rfl) (by kernel_rfl) (by rfl) (by rfl) (fun h => by cases h) rfl
def ty14 : TyI := { und := (.struct #[⟨"msg", 9, 0, false, "", "runtime", 0⟩, ⟨"addr", 12, 1, false, "", "runtime", 16⟩]), size := 2, bytes := 24, zero := (.agg [(.str []), (.int .u64 0)]), eqok := false, comp := true, methods := [⟨"Error", 163, #[], some (124, false)⟩, ⟨"RuntimeError", 1, #[], some (125, false)⟩] }
theorem tyOk14 : TyOk Tryz.prog 14 ty14 := TyOk.mk2 (z := (.agg #[(.string ⟨#[]⟩), (.int .u64 0)])) (ms := #[⟨"Error", 163, #[], some (124, false)⟩, ⟨"RuntimeError", 1, #[], some (125, false)⟩]) (by kernel_rfl) (by kernel_rfl) (by rfl) (by rfl) (fun h => by cases h) rfl
def ty15 : TyI := { und := (.pointer 168), size := 1, bytes := 8, zero := .nilp, eqok := false, comp := true, methods := [⟨"Error", 163, #[], some (126, true)⟩, ⟨"RuntimeError", 1, #[], some (127, true)⟩] }
theorem tyOk15 : TyOk Tryz.prog 15 ty15 := TyOk.mk2 (z := (.pointer none)) (ms := #[⟨"Error", 163, #[], some (126, true)⟩, ⟨"RuntimeError", 1, #[], some (127, true)⟩]) (by kernel_rfl) (by kernel_rfl) (by rfl) (by rfl) (fun h => by cases h) rfl
def ty16 : TyI := { und := (.pointer 171), size := 1, bytes := 8, zero := .nilp, eqok := false, comp := true, methods := [⟨"Error", 163, #[], some (128, true)⟩, ⟨"RuntimeError", 1, #[], some (129, true)⟩] }
theorem tyOk16 : TyOk Tryz.prog 16 ty16 := TyOk.mk2 (z := (.pointer none)) (ms := #[⟨"Error", 163, #[], some (128, true)⟩, ⟨"RuntimeError", 1, #[], some (129, true)⟩]) (by kernel_rfl) (by kernel_rfl) (by rfl) (by rfl) (fun h => by cases h) rfl
def ty17 : TyI := { und := (.pointer 180), size := 1, bytes := 8, zero := .nilp, eqok := false, comp := true, methods := [⟨"Align", 172, #[], some (130, true)⟩, ⟨"Elem", 173, #[], some (131, true)⟩, ⟨"Kind", 109, #[], some (132, true)⟩, ⟨"Size", 181, #[], some (141, true)⟩] }
theorem tyOk17 : TyOk Tryz.prog 17 ty17 := TyOk.mk2 (z := (.pointer none)) (ms := #[⟨"Align", 172, #[], some (130, true)⟩, ⟨"Elem", 173, #[], some (131, true)⟩, ⟨"Kind", 109, #[], some (132, true)⟩, ⟨"Size", 181, #[], some (141, true)⟩]) (by kernel_rfl) (by kernel_rfl) (by rfl) (by rfl) (fun h => by cases h) rfl
def ty18 : TyI := { und := (.struct #[⟨"typ", 17, 0, false, "", "internal/runtime/maps", 0⟩]), size := 1, bytes := 8, zero := (.agg [.nilp]), eqok := false, comp := true, methods := [] }
theorem tyOk18 : TyOk Tryz.prog 18 ty18 := TyOk.mk2 (z := (.agg #[(.pointer none)])) (ms := #[]) (by kernel_rfl) (by kernel_rfl) (by rfl) (by rfl) (fun h => by cases h) rfl
def ty19 : TyI := { und := (.struct #[⟨"typ", 17, 0, false, "", "internal/runtime/maps", 0⟩]), size := 1, bytes := 8, zero := (.agg [.nilp]), eqok := false, comp := true, methods := [⟨"Error", 163, #[], some (133, false)⟩, ⟨"RuntimeError", 1, #[], some (134, false)⟩] }
theorem tyOk19 : TyOk Tryz.prog 19 ty19 := TyOk.mk2 (z := (.agg #[(.pointer none)])) (ms := #[⟨"Error", 163, #[], some (133, false)⟩, ⟨"RuntimeError", 1, #[], some (134, false)⟩]) (by kernel_rfl) (by kernel_rfl) (by rfl) (by rfl) (fun h => by cases h) rfl
def ty20 : TyI := { und := (.interface #[]), size := 1, bytes := 16, zero := .nili, eqok := false, comp := true, methods := [] }
theorem tyOk20 : TyOk Tryz.prog 20 ty20 := TyOk.mk2 (z := .nilIface) (ms := #[]) (by kernel_rfl) (by kernel_rfl) (by rfl) (by rfl) (fun h => by cases h) rfl
def ty21 : TyI := { und := (.int .i32), size := 1, bytes := 4, zero := (.int .i32 0), eqok := false, comp := true, methods := [] }
theorem tyOk21 : TyOk Tryz.prog 21 ty21 := TyOk.mk2 (z := (.int .i32 0)) (ms := #[]) (by kernel_rfl) (by kernel_rfl) (by rfl) (by rfl) (fun h => by cases h) rfl
def ty22 : TyI := { und := (.slice 9), size := 1, bytes := 24, zero := .nils, eqok := false, comp := false, methods := [] }
theorem tyOk22 : TyOk Tryz.prog 22 ty22 := TyOk.mk2 (z := (.slice none 0 0)) (ms := #[]) (by kernel_rfl) (by kernel_rfl) (by rfl) (by rfl) (fun h => by cases h) rfl
def ty23 : TyI := { und := (.slice 25), size := 1, bytes := 24, zero := .nils, eqok := false, comp := false, methods := [] }
theorem tyOk23 : TyOk Tryz.prog 23 ty23 := TyOk.mk2 (z := (.slice none 0 0)) (ms := #[]) (by kernel_rfl) (by kernel_rfl) (by rfl) (by rfl) (fun h => by cases h) rfl
def ty24 : TyI := { und := (.struct #[⟨"Kind", 3, 0, false, "", "", 0⟩, ⟨"Attr", 9, 1, false, "", "", 8⟩, ⟨"Value", 9, 2, false, "", "", 24⟩, ⟨"Subs", 22, 3, false, "", "", 40⟩, ⟨"Kids", 23, 4, false, "", "", 64⟩]), size := 5, bytes := 88, zero := (.agg [(.int .i64 0), (.str []), (.str []), .nils, .nils]), eqok := false, comp := false, methods := [] }
theorem tyOk24 : TyOk Tryz.prog 24 ty24 := TyOk.mk2 (z := (.agg #[(.int .i64 0), (.string ⟨#[]⟩), (.string ⟨#[]⟩), (.slice none 0 0), (.slice none 0 0)])) (ms := #[]) (by kernel_rfl) (by kernel_rfl) (by rfl) (by rfl) (fun h => by cases h) rfl
def ty25 : TyI := { und := (.struct #[⟨"Kind", 3, 0, false, "", "", 0⟩, ⟨"Attr", 9, 1, false, "", "", 8⟩, ⟨"Value", 9, 2, false, "", "", 24⟩, ⟨"Subs", 22, 3, false, "", "", 40⟩, ⟨"Kids", 23, 4, false, "", "", 64⟩]), size := 5, bytes := 88, zero := (.agg [(.int .i64 0), (.str []), (.str []), .nils, .nils]), eqok := false, comp := false, methods := [] }
theorem tyOk25 : TyOk Tryz.prog 25 ty25 := TyOk.mk2 (z := (.agg #[(.int .i64 0), (.string ⟨#[]⟩), (.string ⟨#[]⟩), (.slice none 0 0), (.slice none 0 0)])) (ms := #[]) (by kernel_rfl) (by kernel_rfl) (by rfl) (by rfl) (fun h => by cases h) rfl
def ty26 : TyI := { und := (.slice 45), size := 1, bytes := 24, zero := .nils, eqok := false, comp := false, methods := [] }
theorem tyOk26 : TyOk Tryz.prog 26 ty26 := TyOk.mk2 (z := (.slice none 0 0)) (ms := #[]) (by kernel_rfl) (by kernel_rfl) (by rfl) (by rfl) (fun h => by cases h) rfl
def ty27 : TyI := { und := (.struct #[⟨"ID", 3, 0, false, "", "", 0⟩, ⟨"Op", 3, 1, false, "", "", 8⟩, ⟨"Of", 3, 2, false, "", "", 16⟩, ⟨"DN", 9, 3, false, "", "", 24⟩, ⟨"Version", 3, 4, false, "", "", 40⟩, ⟨"Pass", 9, 5, false, "", "", 48⟩, ⟨"Scope", 3, 6, false, "", "", 64⟩, ⟨"Size", 3, 7, false, "", "", 72⟩, ⟨"Filter", 25, 8, false, "", "", 80⟩, ⟨"Wants", 22, 13, false, "", "", 168⟩, ⟨"Mods", 26, 14, false, "", "", 192⟩, ⟨"RDN", 9, 15, false, "", "", 216⟩, ⟨"DelOld", 4, 16, false, "", "", 232⟩, ⟨"HasSup", 4, 17, false, "", "", 233⟩, ⟨"Sup", 9, 18, false, "", "", 240⟩, ⟨"Attr", 9, 19, false, "", "", 256⟩, ⟨"Value", 9, 20, false, "", "", 272⟩, ⟨"Code", 3, 21, false, "", "", 288⟩, ⟨"Matched", 9, 22, false, "", "", 296⟩]), size := 23, bytes := 312, zero := (.agg [(.int .i64 0), (.int .i64 0), (.int .i64 0), (.str []), (.int .i64 0), (.str []), (.int .i64 0), (.int .i64 0), (.int .i64 0), (.str []), (.str []), .nils, .nils, .nils, .nils, (.str []), (.bool false), (.bool false), (.str []), (.str []), (.str []), (.int .i64 0), (.str [])]), eqok := false, comp := false, methods := [] }
theorem tyOk27 : TyOk Tryz.prog 27 ty27 := TyOk.mk2 (z := (.agg #[(.int .i64 0), (.int .i64 0), (.int .i64 0), (.string ⟨#[]⟩), (.int .i64 0), (.string ⟨#[]⟩), (.int .i64 0), (.int .i64 0), (.int .i64 0), (.string ⟨#[]⟩), (.string ⟨#[]⟩), (.slice none 0 0), (.slice none 0 0), (.slice none 0 0), (.slice none 0 0), (.string ⟨#[]⟩), (.bool false), (.bool false), (.string ⟨#[]⟩), (.string ⟨#[]⟩), (.string ⟨#[]⟩), (.int .i64 0), (.string ⟨#[]⟩)])) (ms := #[]) (by kernel_rfl) (by kernel_rfl) (by rfl) (by rfl) (fun h => by cases h) rfl
def ty28 : TyI := { und := (.struct #[⟨"ID", 3, 0, false, "", "", 0⟩, ⟨"Op", 3, 1, false, "", "", 8⟩, ⟨"Of", 3, 2, false, "", "", 16⟩, ⟨"DN", 9, 3, false, "", "", 24⟩, ⟨"Version", 3, 4, false, "", "", 40⟩, ⟨"Pass", 9, 5, false, "", "", 48⟩, ⟨"Scope", 3, 6, false, "", "", 64⟩, ⟨"Size", 3, 7, false, "", "", 72⟩, ⟨"Filter", 25, 8, false, "", "", 80⟩, ⟨"Wants", 22, 13, false, "", "", 168⟩, ⟨"Mods", 26, 14, false, "", "", 192⟩, ⟨"RDN", 9, 15, false, "", "", 216⟩, ⟨"DelOld", 4, 16, false, "", "", 232⟩, ⟨"HasSup", 4, 17, false, "", "", 233⟩, ⟨"Sup", 9, 18, false, "", "", 240⟩, ⟨"Attr", 9, 19, false, "", "", 256⟩, ⟨"Value", 9, 20, false, "", "", 272⟩, ⟨"Code", 3, 21, false, "", "", 288⟩, ⟨"Matched", 9, 22, false, "", "", 296⟩]), size := 23, bytes := 312, zero := (.agg [(.int .i64 0), (.int .i64 0), (.int .i64 0), (.str []), (.int .i64 0), (.str []), (.int .i64 0), (.int .i64 0), (.int .i64 0), (.str []), (.str []), .nils, .nils, .nils, .nils, (.str []), (.bool false), (.bool false), (.str []), (.str []), (.str []), (.int .i64 0), (.str [])]), eqok := false, comp := false, methods := [] }
theorem tyOk28 : TyOk Tryz.prog 28 ty28 := TyOk.mk2 (z := (.agg #[(.int .i64 0), (.int .i64 0), (.int .i64 0), (.string ⟨#[]⟩), (.int .i64 0), (.string ⟨#[]⟩), (.int .i64 0), (.int .i64 0), (.int .i64 0), (.string ⟨#[]⟩), (.string ⟨#[]⟩), (.slice none 0 0), (.slice none 0 0), (.slice none 0 0), (.slice none 0 0), (.string ⟨#[]⟩), (.bool false), (.bool false), (.string ⟨#[]⟩), (.string ⟨#[]⟩), (.string ⟨#[]⟩), (.int .i64 0), (.string ⟨#[]⟩)])) (ms := #[]) (by kernel_rfl) (by kernel_rfl) (by rfl) (by rfl) (fun h => by cases h) rfl
def ty31 : TyI := { und := (.int .i64), size := 1, bytes := 8, zero := (.int .i64 0), eqok := false, comp := true, methods := [⟨"Error", 163, #[], some (135, false)⟩] }
theorem tyOk31 : TyOk Tryz.prog 31 ty31 := TyOk.mk2 (z := (.int .i64 0)) (ms := #[⟨"Error", 163, #[], some (135, false)⟩]) (by kernel_rfl) (by kernel_rfl) (by rfl) (by rfl) (fun h => by cases h) rfl
def ty39 : TyI := { und := (.int .u16), size := 1, bytes := 2, zero := (.int .u16 0), eqok := false, comp := true, methods := [] }
theorem tyOk39 : TyOk Tryz.prog 39 ty39 := TyOk.mk2 (z := (.int .u16 0)) (ms := #[]) (by kernel_rfl) (by kernel_rfl) (by rfl) (by rfl) (fun h => by cases h) rfl
def ty40 : TyI := { und := (.slice 5), size := 1, bytes := 24, zero := .nils, eqok := false, comp := false, methods := [] }
theorem tyOk40 : TyOk Tryz.prog 40 ty40 := TyOk.mk2 (z := (.slice none 0 0)) (ms := #[]) (by kernel_rfl) (by kernel_rfl) (by rfl) (by rfl) (fun h => by cases h) rfl
def ty44 : TyI := { und := (.struct #[⟨"Kind", 3, 0, false, "", "", 0⟩, ⟨"Attr", 9, 1, false, "", "", 8⟩, ⟨"Values", 22, 2, false, "", "", 24⟩]), size := 3, bytes := 48, zero := (.agg [(.int .i64 0), (.str []), .nils]), eqok := false, comp := false, methods := [] }
theorem tyOk44 : TyOk Tryz.prog 44 ty44 := TyOk.mk2 (z := (.agg #[(.int .i64 0), (.string ⟨#[]⟩), (.slice none 0 0)])) (ms := #[]) (by kernel_rfl) (by kernel_rfl) (by rfl) (by rfl) (fun h => by cases h) rfl
def ty45 : TyI := { und := (.struct #[⟨"Kind", 3, 0, false, "", "", 0⟩, ⟨"Attr", 9, 1, false, "", "", 8⟩, ⟨"Values", 22, 2, false, "", "", 24⟩]), size := 3, bytes := 48, zero := (.agg [(.int .i64 0), (.str []), .nils]), eqok := false, comp := false, methods := [] }
theorem tyOk45 : TyOk Tryz.prog 45 ty45 := TyOk.mk2 (z := (.agg #[(.int .i64 0), (.string ⟨#[]⟩), (.slice none 0 0)])) (ms := #[]) (by kernel_rfl) (by kernel_rfl) (by rfl) (by rfl) (fun h => by cases h) rfl
def ty48 : TyI := { und := (.slice 50), size := 1, bytes := 24, zero := .nils, eqok := false, comp := false, methods := [] }
theorem tyOk48 : TyOk Tryz.prog 48 ty48 := TyOk.mk2 (z := (.slice none 0 0)) (ms := #[]) (by kernel_rfl) (by kernel_rfl) (by rfl) (by rfl) (fun h => by cases h) rfl
def ty49 : TyI := { und := (.struct #[⟨"Tag", 5, 0, false, "", "", 0⟩, ⟨"Body", 9, 1, false, "", "", 8⟩, ⟨"Kids", 48, 2, false, "", "", 24⟩]), size := 3, bytes := 48, zero := (.agg [(.int .u8 0), (.str []), .nils]), eqok := false, comp := false, methods := [] }
theorem tyOk49 : TyOk Tryz.prog 49 ty49 := TyOk.mk2 (z := (.agg #[(.int .u8 0), (.string ⟨#[]⟩), (.slice none 0 0)])) (ms := #[]) (by kernel_rfl) (by kernel_rfl) (by rfl) (by rfl) (fun h => by cases h) rfl
def ty50 : TyI := { und := (.struct #[⟨"Tag", 5, 0, false, "", "", 0⟩, ⟨"Body", 9, 1, false, "", "", 8⟩, ⟨"Kids", 48, 2, false, "", "", 24⟩]), size := 3, bytes := 48, zero := (.agg [(.int .u8 0), (.str []), .nils]), eqok := false, comp := false, methods := [] }
theorem tyOk50 : TyOk Tryz.prog 50 ty50 := TyOk.mk2 (z := (.agg #[(.int .u8 0), (.string ⟨#[]⟩), (.slice none 0 0)])) (ms := #[]) (by kernel_rfl) (by kernel_rfl) (by rfl) (by rfl) (fun h => by cases h) rfl
def ty72 : TyI := { und := (.interface #[("Error", 163)]), size := 1, bytes := 16, zero := .nili, eqok := false, comp := true, methods := [] }
theorem tyOk72 : TyOk Tryz.prog 72 ty72 := TyOk.mk2 (z := .nilIface) (ms := #[]) (by kernel_rfl) (by kernel_rfl) (by rfl) (by rfl) (fun h => by cases h) rfl
def ty73 : TyI := { und := (.interface #[("Error", 163)]), size := 1, bytes := 16, zero := .nili, eqok := false, comp := true, methods := [] }
theorem tyOk73 : TyOk Tryz.prog 73 ty73 := TyOk.mk2 (z := .nilIface) (ms := #[]) (by kernel_rfl) (by kernel_rfl) (by rfl) (by rfl) (fun h => by cases h) rfl
def ty77 : TyI := { und := (.pointer 31), size := 1, bytes := 8, zero := .nilp, eqok := false, comp := true, methods := [⟨"Error", 163, #[], some (135, false)⟩] }
theorem tyOk77 : TyOk Tryz.prog 77 ty77 := TyOk.mk2 (z := (.pointer none)) (ms := #[⟨"Error", 163, #[], some (135, false)⟩]) (by kernel_rfl) (by kernel_rfl) (by rfl) (by rfl) (fun h => by cases h) rfl
def ty80 : TyI := { und := (.array 9 5), size := 9, bytes := 9, zero := (.agg [(.int .u8 0), (.int .u8 0), (.int .u8 0), (.int .u8 0), (.int .u8 0), (.int .u8 0), (.int .u8 0), (.int .u8 0), (.int .u8 0)]), eqok := false, comp := true, methods := [] }
theorem tyOk80 : TyOk Tryz.prog 80 ty80 := TyOk.mk2 (z := (.agg #[(.int .u8 0), (.int .u8 0), (.int .u8 0), (.int .u8 0), (.int .u8 0), (.int .u8 0), (.int .u8 0), (.int .u8 0), (.int .u8 0)])) (ms := #[]) (by kernel_rfl) (by kernel_rfl) (by rfl) (by rfl) (fun h => by cases h) rfl
def ty81 : TyI := { und := (.array 11 5), size := 11, bytes := 11, zero := (.agg [(.int .u8 0), (.int .u8 0), (.int .u8 0), (.int .u8 0), (.int .u8 0), (.int .u8 0), (.int .u8 0), (.int .u8 0), (.int .u8 0), (.int .u8 0), (.int .u8 0)]), eqok := false, comp := true, methods := [] }
theorem tyOk81 : TyOk Tryz.prog 81 ty81 := TyOk.mk2 (z := (.agg #[(.int .u8 0), (.int .u8 0), (.int .u8 0), (.int .u8 0), (.int .u8 0), (.int .u8 0), (.int .u8 0), (.int .u8 0), (.int .u8 0), (.int .u8 0), (.int .u8 0)])) (ms := #[]) (by kernel_rfl) (by kernel_rfl) (by rfl) (by rfl) (fun h => by cases h) rfl
def ty96 : TyI := { und := (.pointer 98), size := 1, bytes := 8, zero := .nilp, eqok := false, comp := true, methods := [⟨"Error", 163, #[], some (136, true)⟩, ⟨"Unwrap", 143, #[], some (137, true)⟩] }
theorem tyOk96 : TyOk Tryz.prog 96 ty96 := TyOk.mk2 (z := (.pointer none)) (ms := #[⟨"Error", 163, #[], some (136, true)⟩, ⟨"Unwrap", 143, #[], some (137, true)⟩]) (by kernel_rfl) (by kernel_rfl) (by rfl) (by rfl) (fun h => by cases h) rfl
def ty97 : TyI := { und := (.struct #[⟨"E", 73, 0, false, "", "", 0⟩, ⟨"At", 3, 1, false, "", "", 16⟩]), size := 2, bytes := 24, zero := (.agg [.nili, (.int .i64 0)]), eqok := false, comp := true, methods := [] }
theorem tyOk97 : TyOk Tryz.prog 97 ty97 := TyOk.mk2 (z := (.agg #[.nilIface, (.int .i64 0)])) (ms := #[]) (by kernel_rfl) (by kernel_rfl) (by rfl) (by rfl) (fun h => by cases h) rfl
def ty98 : TyI := { und := (.struct #[⟨"E", 73, 0, false, "", "", 0⟩, ⟨"At", 3, 1, false, "", "", 16⟩]), size := 2, bytes := 24, zero := (.agg [.nili, (.int .i64 0)]), eqok := false, comp := true, methods := [] }
theorem tyOk98 : TyOk Tryz.prog 98 ty98 := TyOk.mk2 (z := (.agg #[.nilIface, (.int .i64 0)])) (ms := #[]) (by kernel_rfl) (by kernel_rfl) (by rfl) (by rfl) (fun h => by cases h) rfl
def ty100 : TyI := { und := .unsafePointer, size := 1, bytes := 8, zero := .nilp, eqok := false, comp := true, methods := [] }
theorem tyOk100 : TyOk Tryz.prog 100 ty100 := TyOk.mk2 (z := (.pointer none)) (ms := #[]) (by kernel_rfl) (by kernel_rfl) (by rfl) (by rfl) (fun h => by cases h) rfl
def ty101 : TyI := { und := (.int .u64), size := 1, bytes := 8, zero := (.int .u64 0), eqok := false, comp := true, methods := [⟨"internal/reflectlite.mustBeAssignable", 1, #[], some (138, false)⟩] }
theorem tyOk101 : TyOk Tryz.prog 101 ty101 := TyOk.mk2 (z := (.int .u64 0)) (ms := #[⟨"internal/reflectlite.mustBeAssignable", 1, #[], some (138, false)⟩]) (by kernel_rfl) (by kernel_rfl) (by rfl) (by rfl) (fun h => by cases h) rfl
def ty102 : TyI := { und := (.struct #[⟨"typ_", 17, 0, false, "", "internal/reflectlite", 0⟩, ⟨"ptr", 100, 1, false, "", "internal/reflectlite", 8⟩, ⟨"flag", 101, 2, true, "", "internal/reflectlite", 16⟩]), size := 3, bytes := 24, zero := (.agg [.nilp, .nilp, (.int .u64 0)]), eqok := false, comp := true, methods := [⟨"internal/reflectlite.mustBeAssignable", 1, #[⟨102, 2, false⟩], some (138, false)⟩] }
theorem tyOk102 : TyOk Tryz.prog 102 ty102 := TyOk.mk2 (z := (.agg #[(.pointer none), (.pointer none), (.int .u64 0)])) (ms := #[⟨"internal/reflectlite.mustBeAssignable", 1, #[⟨102, 2, false⟩], some (138, false)⟩]) (by kernel_rfl) (by kernel_rfl) (by rfl) (by rfl) (fun h => by cases h) rfl
def ty103 : TyI := { und := (.struct #[⟨"typ_", 17, 0, false, "", "internal/reflectlite", 0⟩, ⟨"ptr", 100, 1, false, "", "internal/reflectlite", 8⟩, ⟨"flag", 101, 2, true, "", "internal/reflectlite", 16⟩]), size := 3, bytes := 24, zero := (.agg [.nilp, .nilp, (.int .u64 0)]), eqok := false, comp := true, methods := [⟨"Elem", 137, #[], some (102, false)⟩, ⟨"IsNil", 29, #[], some (76, false)⟩, ⟨"Kind", 109, #[], some (139, false)⟩, ⟨"Set", 138, #[], some (103, false)⟩, ⟨"Type", 107, #[], some (75, false)⟩, ⟨"internal/reflectlite.mustBeAssignable", 1, #[⟨103, 2, false⟩], some (138, false)⟩] }
theorem tyOk103 : TyOk Tryz.prog 103 ty103 := TyOk.mk2 (z := (.agg #[(.pointer none), (.pointer none), (.int .u64 0)])) (ms := #[⟨"Elem", 137, #[], some (102, false)⟩, ⟨"IsNil", 29, #[], some (76, false)⟩, ⟨"Kind", 109, #[], some (139, false)⟩, ⟨"Set", 138, #[], some (103, false)⟩, ⟨"Type", 107, #[], some (75, false)⟩, ⟨"internal/reflectlite.mustBeAssignable", 1, #[⟨103, 2, false⟩], some (138, false)⟩]) (by kernel_rfl) (by kernel_rfl) (by rfl) (by rfl) (fun h => by cases h) rfl
def ty105 : TyI := { und := (.interface #[("AssignableTo", 110), ("Comparable", 29), ("Elem", 107), ("Implements", 110), ("Kind", 109), ("Name", 163), ("PkgPath", 163), ("Size", 181), ("String", 163), ("internal/reflectlite.common", 173), ("internal/reflectlite.uncommon", 182)]), size := 1, bytes := 16, zero := .nili, eqok := false, comp := true, methods := [] }
theorem tyOk105 : TyOk Tryz.prog 105 ty105 := TyOk.mk2 (z := .nilIface) (ms := #[]) (by kernel_rfl) (by kernel_rfl) (by rfl) (by rfl) (fun h => by cases h) rfl
def ty106 : TyI := { und := (.interface #[("AssignableTo", 110), ("Comparable", 29), ("Elem", 107), ("Implements", 110), ("Kind", 109), ("Name", 163), ("PkgPath", 163), ("Size", 181), ("String", 163), ("internal/reflectlite.common", 173), ("internal/reflectlite.uncommon", 182)]), size := 1, bytes := 16, zero := .nili, eqok := false, comp := true, methods := [] }
theorem tyOk106 : TyOk Tryz.prog 106 ty106 := TyOk.mk2 (z := .nilIface) (ms := #[]) (by kernel_rfl) (by kernel_rfl) (by rfl) (by rfl) (fun h => by cases h) rfl
def ty108 : TyI := { und := (.int .u8), size := 1, bytes := 1, zero := (.int .u8 0), eqok := false, comp := true, methods := [⟨"String", 163, #[], some (140, false)⟩] }
theorem tyOk108 : TyOk Tryz.prog 108 ty108 := TyOk.mk2 (z := (.int .u8 0)) (ms := #[⟨"String", 163, #[], some (140, false)⟩]) (by kernel_rfl) (by kernel_rfl) (by rfl) (by rfl) (fun h => by cases h) rfl
def ty115 : TyI := { und := (.int .u64), size := 1, bytes := 8, zero := (.int .u64 0), eqok := false, comp := true, methods := [] }
theorem tyOk115 : TyOk Tryz.prog 115 ty115 := TyOk.mk2 (z := (.int .u64 0)) (ms := #[]) (by kernel_rfl) (by kernel_rfl) (by rfl) (by rfl) (fun h => by cases h) rfl
def ty120 : TyI := { und := (.pointer 122), size := 1, bytes := 8, zero := .nilp, eqok := false, comp := true, methods := [⟨"prefect/ber.read", 124, #[], some (93, true)⟩] }
theorem tyOk120 : TyOk Tryz.prog 120 ty120 := TyOk.mk2 (z := (.pointer none)) (ms := #[⟨"prefect/ber.read", 124, #[], some (93, true)⟩]) (by kernel_rfl) (by kernel_rfl) (by rfl) (by rfl) (fun h => by cases h) rfl
def ty121 : TyI := { und := (.struct #[⟨"s", 9, 0, false, "", "prefect/ber", 0⟩, ⟨"at", 3, 1, false, "", "prefect/ber", 16⟩]), size := 2, bytes := 24, zero := (.agg [(.str []), (.int .i64 0)]), eqok := false, comp := true, methods := [] }
theorem tyOk121 : TyOk Tryz.prog 121 ty121 := TyOk.mk2 (z := (.agg #[(.string ⟨#[]⟩), (.int .i64 0)])) (ms := #[]) (by kernel_rfl) (by kernel_rfl) (by rfl) (by rfl) (fun h => by cases h) rfl
def ty122 : TyI := { und := (.struct #[⟨"s", 9, 0, false, "", "prefect/ber", 0⟩, ⟨"at", 3, 1, false, "", "prefect/ber", 16⟩]), size := 2, bytes := 24, zero := (.agg [(.str []), (.int .i64 0)]), eqok := true, comp := true, methods := [] }
theorem tyOk122 : TyOk Tryz.prog 122 ty122 := TyOk.mk2 (z := (.agg #[(.string ⟨#[]⟩), (.int .i64 0)])) (ms := #[]) (by kernel_rfl) (by kernel_rfl) (by rfl) (by rfl) (fun _ => ⟨by kernel_rfl, by kernel_rfl⟩) rfl
def ty133 : TyI := { und := (.struct #[⟨"Type", 17, 0, true, "", "", 0⟩]), size := 1, bytes := 8, zero := (.agg [.nilp]), eqok := false, comp := true, methods := [⟨"Align", 172, #[⟨133, 0, false⟩], some (130, true)⟩, ⟨"Elem", 173, #[⟨133, 0, false⟩], some (131, true)⟩, ⟨"Kind", 109, #[⟨133, 0, false⟩], some (132, true)⟩, ⟨"Size", 181, #[⟨133, 0, false⟩], some (141, true)⟩] }
theorem tyOk133 : TyOk Tryz.prog 133 ty133 := TyOk.mk2 (z := (.agg #[(.pointer none)])) (ms := #[⟨"Align", 172, #[⟨133, 0, false⟩], some (130, true)⟩, ⟨"Elem", 173, #[⟨133, 0, false⟩], some (131, true)⟩, ⟨"Kind", 109, #[⟨133, 0, false⟩], some (132, true)⟩, ⟨"Size", 181, #[⟨133, 0, false⟩], some (141, true)⟩]) (by kernel_rfl) (by kernel_rfl) (by rfl) (by rfl) (fun h => by cases h) rfl
def ty134 : TyI := { und := (.struct #[⟨"Type", 17, 0, true, "", "", 0⟩]), size := 1, bytes := 8, zero := (.agg [.nilp]), eqok := false, comp := true, methods := [⟨"Align", 172, #[⟨134, 0, false⟩], some (130, true)⟩, ⟨"AssignableTo", 110, #[], some (142, false)⟩, ⟨"Comparable", 29, #[], some (143, false)⟩, ⟨"Elem", 107, #[], some (144, false)⟩, ⟨"Implements", 110, #[], some (145, false)⟩, ⟨"Kind", 109, #[⟨134, 0, false⟩], some (132, true)⟩, ⟨"Name", 163, #[], some (146, false)⟩, ⟨"PkgPath", 163, #[], some (147, false)⟩, ⟨"Size", 181, #[⟨134, 0, false⟩], some (141, true)⟩, ⟨"String", 163, #[], some (148, false)⟩, ⟨"internal/reflectlite.common", 173, #[], some (149, false)⟩, ⟨"internal/reflectlite.uncommon", 182, #[], some (150, false)⟩] }
theorem tyOk134 : TyOk Tryz.prog 134 ty134 := TyOk.mk2 (z := (.agg #[(.pointer none)])) (ms := #[⟨"Align", 172, #[⟨134, 0, false⟩], some (130, true)⟩, ⟨"AssignableTo", 110, #[], some (142, false)⟩, ⟨"Comparable", 29, #[], some (143, false)⟩, ⟨"Elem", 107, #[], some (144, false)⟩, ⟨"Implements", 110, #[], some (145, false)⟩, ⟨"Kind", 109, #[⟨134, 0, false⟩], some (132, true)⟩, ⟨"Name", 163, #[], some (146, false)⟩, ⟨"PkgPath", 163, #[], some (147, false)⟩, ⟨"Size", 181, #[⟨134, 0, false⟩], some (141, true)⟩, ⟨"String", 163, #[], some (148, false)⟩, ⟨"internal/reflectlite.common", 173, #[], some (149, false)⟩, ⟨"internal/reflectlite.uncommon", 182, #[], some (150, false)⟩]) (by kernel_rfl) (by kernel_rfl) (by rfl) (by rfl) (fun h => by cases h) rfl
def ty135 : TyI := { und := (.pointer 184), size := 1, bytes := 8, zero := .nilp, eqok := false, comp := true, methods := [⟨"Error", 163, #[], some (151, true)⟩] }
theorem tyOk135 : TyOk Tryz.prog 135 ty135 := TyOk.mk2 (z := (.pointer none)) (ms := #[⟨"Error", 163, #[], some (151, true)⟩]) (by kernel_rfl) (by kernel_rfl) (by rfl) (by rfl) (fun h => by cases h) rfl
def ty139 : TyI := { und := (.interface #[("As", 141)]), size := 1, bytes := 16, zero := .nili, eqok := false, comp := true, methods := [] }
theorem tyOk139 : TyOk Tryz.prog 139 ty139 := TyOk.mk2 (z := .nilIface) (ms := #[]) (by kernel_rfl) (by kernel_rfl) (by rfl) (by rfl) (fun h => by cases h) rfl
def ty142 : TyI := { und := (.interface #[("Unwrap", 143)]), size := 1, bytes := 16, zero := .nili, eqok := false, comp := true, methods := [] }
theorem tyOk142 : TyOk Tryz.prog 142 ty142 := TyOk.mk2 (z := .nilIface) (ms := #[]) (by kernel_rfl) (by kernel_rfl) (by rfl) (by rfl) (fun h => by cases h) rfl
def ty144 : TyI := { und := (.interface #[("Unwrap", 146)]), size := 1, bytes := 16, zero := .nili, eqok := false, comp := true, methods := [] }
theorem tyOk144 : TyOk Tryz.prog 144 ty144 := TyOk.mk2 (z := .nilIface) (ms := #[]) (by kernel_rfl) (by kernel_rfl) (by rfl) (by rfl) (fun h => by cases h) rfl
def ty145 : TyI := { und := (.slice 73), size := 1, bytes := 24, zero := .nils, eqok := false, comp := false, methods := [] }
theorem tyOk145 : TyOk Tryz.prog 145 ty145 := TyOk.mk2 (z := (.slice none 0 0)) (ms := #[]) (by kernel_rfl) (by kernel_rfl) (by rfl) (by rfl) (fun h => by cases h) rfl
def ty156 : TyI := { und := (.array 8 3), size := 8, bytes := 64, zero := (.agg [(.int .i64 0), (.int .i64 0), (.int .i64 0), (.int .i64 0), (.int .i64 0), (.int .i64 0), (.int .i64 0), (.int .i64 0)]), eqok := false, comp := true, methods := [] }
theorem tyOk156 : TyOk Tryz.prog 156 ty156 := TyOk.mk2 (z := (.agg #[(.int .i64 0), (.int .i64 0), (.int .i64 0), (.int .i64 0), (.int .i64 0), (.int .i64 0), (.int .i64 0), (.int .i64 0)])) (ms := #[]) (by kernel_rfl) (by kernel_rfl) (by rfl) (by rfl) (fun h => by cases h) rfl
def ty157 : TyI := { und := (.pointer 159), size := 1, bytes := 8, zero := .nilp, eqok := false, comp := true, methods := [⟨"Grow", 160, #[], some (111, true)⟩, ⟨"Reset", 1, #[], some (152, true)⟩, ⟨"String", 163, #[], some (113, true)⟩, ⟨"WriteString", 162, #[], some (112, true)⟩, ⟨"strings.copyCheck", 1, #[], some (114, true)⟩, ⟨"strings.grow", 160, #[], some (115, true)⟩] }
theorem tyOk157 : TyOk Tryz.prog 157 ty157 := TyOk.mk2 (z := (.pointer none)) (ms := #[⟨"Grow", 160, #[], some (111, true)⟩, ⟨"Reset", 1, #[], some (152, true)⟩, ⟨"String", 163, #[], some (113, true)⟩, ⟨"WriteString", 162, #[], some (112, true)⟩, ⟨"strings.copyCheck", 1, #[], some (114, true)⟩, ⟨"strings.grow", 160, #[], some (115, true)⟩]) (by kernel_rfl) (by kernel_rfl) (by rfl) (by rfl) (fun h => by cases h) rfl
def ty158 : TyI := { und := (.struct #[⟨"addr", 157, 0, false, "", "strings", 0⟩, ⟨"buf", 40, 1, false, "", "strings", 8⟩]), size := 2, bytes := 32, zero := (.agg [.nilp, .nils]), eqok := false, comp := false, methods := [] }
theorem tyOk158 : TyOk Tryz.prog 158 ty158 := TyOk.mk2 (z := (.agg #[(.pointer none), (.slice none 0 0)])) (ms := #[]) (by kernel_rfl) (by kernel_rfl) (by rfl) (by rfl) (fun h => by cases h) rfl
def ty159 : TyI := { und := (.struct #[⟨"addr", 157, 0, false, "", "strings", 0⟩, ⟨"buf", 40, 1, false, "", "strings", 8⟩]), size := 2, bytes := 32, zero := (.agg [.nilp, .nils]), eqok := false, comp := false, methods := [] }
theorem tyOk159 : TyOk Tryz.prog 159 ty159 := TyOk.mk2 (z := (.agg #[(.pointer none), (.slice none 0 0)])) (ms := #[]) (by kernel_rfl) (by kernel_rfl) (by rfl) (by rfl) (fun h => by cases h) rfl
def ty164 : TyI := { und := (.pointer 5), size := 1, bytes := 8, zero := .nilp, eqok := false, comp := true, methods := [] }
theorem tyOk164 : TyOk Tryz.prog 164 ty164 := TyOk.mk2 (z := (.pointer none)) (ms := #[]) (by kernel_rfl) (by kernel_rfl) (by rfl) (by rfl) (fun h => by cases h) rfl
def ty167 : TyI := { und := (.struct #[⟨"_interface", 17, 0, false, "", "runtime", 0⟩, ⟨"concrete", 17, 1, false, "", "runtime", 8⟩, ⟨"asserted", 17, 2, false, "", "runtime", 16⟩, ⟨"missingMethod", 9, 3, false, "", "runtime", 24⟩]), size := 4, bytes := 40, zero := (.agg [.nilp, .nilp, .nilp, (.str [])]), eqok := false, comp := true, methods := [] }
theorem tyOk167 : TyOk Tryz.prog 167 ty167 := TyOk.mk2 (z := (.agg #[(.pointer none), (.pointer none), (.pointer none), (.string ⟨#[]⟩)])) (ms := #[]) (by kernel_rfl) (by kernel_rfl) (by rfl) (by rfl) (fun h => by cases h) rfl
def ty168 : TyI := { und := (.struct #[⟨"_interface", 17, 0, false, "", "runtime", 0⟩, ⟨"concrete", 17, 1, false, "", "runtime", 8⟩, ⟨"asserted", 17, 2, false, "", "runtime", 16⟩, ⟨"missingMethod", 9, 3, false, "", "runtime", 24⟩]), size := 4, bytes := 40, zero := (.agg [.nilp, .nilp, .nilp, (.str [])]), eqok := false, comp := true, methods := [] }
theorem tyOk168 : TyOk Tryz.prog 168 ty168 := TyOk.mk2 (z := (.agg #[(.pointer none), (.pointer none), (.pointer none), (.string ⟨#[]⟩)])) (ms := #[]) (by kernel_rfl) (by kernel_rfl) (by rfl) (by rfl) (fun h => by cases h) rfl
def ty169 : TyI := { und := (.array 0 16), size := 0, bytes := 0, zero := (.agg []), eqok := false, comp := true, methods := [] }
theorem tyOk169 : TyOk Tryz.prog 169 ty169 := TyOk.mk2 (z := (.agg #[])) (ms := #[]) (by kernel_rfl) (by kernel_rfl) (by rfl) (by rfl) (fun h => by cases h) rfl
def ty170 : TyI := { und := (.struct #[⟨"_", 169, 0, false, "", "runtime", 0⟩]), size := 0, bytes := 0, zero := (.agg []), eqok := false, comp := true, methods := [] }
theorem tyOk170 : TyOk Tryz.prog 170 ty170 := TyOk.mk2 (z := (.agg #[])) (ms := #[]) (by kernel_rfl) (by kernel_rfl) (by rfl) (by rfl) (fun h => by cases h) rfl
def ty171 : TyI := { und := (.struct #[⟨"_", 169, 0, false, "", "runtime", 0⟩]), size := 0, bytes := 0, zero := (.agg []), eqok := false, comp := true, methods := [] }
theorem tyOk171 : TyOk Tryz.prog 171 ty171 := TyOk.mk2 (z := (.agg #[])) (ms := #[]) (by kernel_rfl) (by kernel_rfl) (by rfl) (by rfl) (fun h => by cases h) rfl
def ty174 : TyI := { und := (.int .u32), size := 1, bytes := 4, zero := (.int .u32 0), eqok := false, comp := true, methods := [] }
theorem tyOk174 : TyOk Tryz.prog 174 ty174 := TyOk.mk2 (z := (.int .u32 0)) (ms := #[]) (by kernel_rfl) (by kernel_rfl) (by rfl) (by rfl) (fun h => by cases h) rfl
def ty175 : TyI := { und := (.int .u8), size := 1, bytes := 1, zero := (.int .u8 0), eqok := false, comp := true, methods := [] }
theorem tyOk175 : TyOk Tryz.prog 175 ty175 := TyOk.mk2 (z := (.int .u8 0)) (ms := #[]) (by kernel_rfl) (by kernel_rfl) (by rfl) (by rfl) (fun h => by cases h) rfl
def ty177 : TyI := { und := (.int .i32), size := 1, bytes := 4, zero := (.int .i32 0), eqok := false, comp := true, methods := [] }
theorem tyOk177 : TyOk Tryz.prog 177 ty177 := TyOk.mk2 (z := (.int .i32 0)) (ms := #[]) (by kernel_rfl) (by kernel_rfl) (by rfl) (by rfl) (fun h => by cases h) rfl
def ty178 : TyI := { und := (.int .i32), size := 1, bytes := 4, zero := (.int .i32 0), eqok := false, comp := true, methods := [] }
theorem tyOk178 : TyOk Tryz.prog 178 ty178 := TyOk.mk2 (z := (.int .i32 0)) (ms := #[]) (by kernel_rfl) (by kernel_rfl) (by rfl) (by rfl) (fun h => by cases h) rfl
def ty179 : TyI := { und := (.struct #[⟨"Size_", 12, 0, false, "", "", 0⟩, ⟨"PtrBytes", 12, 1, false, "", "", 8⟩, ⟨"Hash", 174, 2, false, "", "", 16⟩, ⟨"TFlag", 175, 3, false, "", "", 20⟩, ⟨"Align_", 5, 4, false, "", "", 21⟩, ⟨"FieldAlign_", 5, 5, false, "", "", 22⟩, ⟨"Kind_", 108, 6, false, "", "", 23⟩, ⟨"Equal", 176, 7, false, "", "", 24⟩, ⟨"GCData", 164, 8, false, "", "", 32⟩, ⟨"Str", 177, 9, false, "", "", 40⟩, ⟨"PtrToThis", 178, 10, false, "", "", 44⟩]), size := 11, bytes := 48, zero := (.agg [(.int .u64 0), (.int .u64 0), (.int .u32 0), (.int .u8 0), (.int .u8 0), (.int .u8 0), (.int .u8 0), .nilf, .nilp, (.int .i32 0), (.int .i32 0)]), eqok := false, comp := false, methods := [] }
theorem tyOk179 : TyOk Tryz.prog 179 ty179 := TyOk.mk2 (z := (.agg #[(.int .u64 0), (.int .u64 0), (.int .u32 0), (.int .u8 0), (.int .u8 0), (.int .u8 0), (.int .u8 0), .nilFunc, (.pointer none), (.int .i32 0), (.int .i32 0)])) (ms := #[]) (by kernel_rfl) (by kernel_rfl) (by rfl) (by rfl) (fun h => by cases h) rfl
def ty180 : TyI := { und := (.struct #[⟨"Size_", 12, 0, false, "", "", 0⟩, ⟨"PtrBytes", 12, 1, false, "", "", 8⟩, ⟨"Hash", 174, 2, false, "", "", 16⟩, ⟨"TFlag", 175, 3, false, "", "", 20⟩, ⟨"Align_", 5, 4, false, "", "", 21⟩, ⟨"FieldAlign_", 5, 5, false, "", "", 22⟩, ⟨"Kind_", 108, 6, false, "", "", 23⟩, ⟨"Equal", 176, 7, false, "", "", 24⟩, ⟨"GCData", 164, 8, false, "", "", 32⟩, ⟨"Str", 177, 9, false, "", "", 40⟩, ⟨"PtrToThis", 178, 10, false, "", "", 44⟩]), size := 11, bytes := 48, zero := (.agg [(.int .u64 0), (.int .u64 0), (.int .u32 0), (.int .u8 0), (.int .u8 0), (.int .u8 0), (.int .u8 0), .nilf, .nilp, (.int .i32 0), (.int .i32 0)]), eqok := false, comp := false, methods := [] }
theorem tyOk180 : TyOk Tryz.prog 180 ty180 := TyOk.mk2 (z := (.agg #[(.int .u64 0), (.int .u64 0), (.int .u32 0), (.int .u8 0), (.int .u8 0), (.int .u8 0), (.int .u8 0), .nilFunc, (.pointer none), (.int .i32 0), (.int .i32 0)])) (ms := #[]) (by kernel_rfl) (by kernel_rfl) (by rfl) (by rfl) (fun h => by cases h) rfl
def ty183 : TyI := { und := (.struct #[⟨"Method", 9, 0, false, "", "", 0⟩, ⟨"Kind", 108, 1, false, "", "", 16⟩]), size := 2, bytes := 24, zero := (.agg [(.str []), (.int .u8 0)]), eqok := false, comp := true, methods := [] }
theorem tyOk183 : TyOk Tryz.prog 183 ty183 := TyOk.mk2 (z := (.agg #[(.string ⟨#[]⟩), (.int .u8 0)])) (ms := #[]) (by kernel_rfl) (by kernel_rfl) (by rfl) (by rfl) (fun h => by cases h) rfl
def ty184 : TyI := { und := (.struct #[⟨"Method", 9, 0, false, "", "", 0⟩, ⟨"Kind", 108, 1, false, "", "", 16⟩]), size := 2, bytes := 24, zero := (.agg [(.str []), (.int .u8 0)]), eqok := false, comp := true, methods := [] }
theorem tyOk184 : TyOk Tryz.prog 184 ty184 := TyOk.mk2 (z := (.agg #[(.string ⟨#[]⟩), (.int .u8 0)])) (ms := #[]) (by kernel_rfl) (by kernel_rfl) (by rfl) (by rfl) (fun h => by cases h) rfl
def ty185 : TyI := { und := (.pointer 188), size := 1, bytes := 8, zero := .nilp, eqok := false, comp := true, methods := [⟨"ExportedMethods", 186, #[], some (153, true)⟩] }
theorem tyOk185 : TyOk Tryz.prog 185 ty185 := TyOk.mk2 (z := (.pointer none)) (ms := #[⟨"ExportedMethods", 186, #[], some (153, true)⟩]) (by kernel_rfl) (by kernel_rfl) (by rfl) (by rfl) (fun h => by cases h) rfl
def ty187 : TyI := { und := (.struct #[⟨"PkgPath", 177, 0, false, "", "", 0⟩, ⟨"Mcount", 39, 1, false, "", "", 4⟩, ⟨"Xcount", 39, 2, false, "", "", 6⟩, ⟨"Moff", 174, 3, false, "", "", 8⟩, ⟨"_", 174, 4, false, "", "internal/abi", 12⟩]), size := 5, bytes := 16, zero := (.agg [(.int .i32 0), (.int .u16 0), (.int .u16 0), (.int .u32 0), (.int .u32 0)]), eqok := false, comp := true, methods := [] }
theorem tyOk187 : TyOk Tryz.prog 187 ty187 := TyOk.mk2 (z := (.agg #[(.int .i32 0), (.int .u16 0), (.int .u16 0), (.int .u32 0), (.int .u32 0)])) (ms := #[]) (by kernel_rfl) (by kernel_rfl) (by rfl) (by rfl) (fun h => by cases h) rfl
def ty188 : TyI := { und := (.struct #[⟨"PkgPath", 177, 0, false, "", "", 0⟩, ⟨"Mcount", 39, 1, false, "", "", 4⟩, ⟨"Xcount", 39, 2, false, "", "", 6⟩, ⟨"Moff", 174, 3, false, "", "", 8⟩, ⟨"_", 174, 4, false, "", "internal/abi", 12⟩]), size := 5, bytes := 16, zero := (.agg [(.int .i32 0), (.int .u16 0), (.int .u16 0), (.int .u32 0), (.int .u32 0)]), eqok := false, comp := true, methods := [] }
theorem tyOk188 : TyOk Tryz.prog 188 ty188 := TyOk.mk2 (z := (.agg #[(.int .i32 0), (.int .u16 0), (.int .u16 0), (.int .u32 0), (.int .u32 0)])) (ms := #[]) (by kernel_rfl) (by kernel_rfl) (by rfl) (by rfl) (fun h => by cases h) rfl
def ty189 : TyI := { und := (.slice 192), size := 1, bytes := 24, zero := .nils, eqok := false, comp := false, methods := [] }
theorem tyOk189 : TyOk Tryz.prog 189 ty189 := TyOk.mk2 (z := (.slice none 0 0)) (ms := #[]) (by kernel_rfl) (by kernel_rfl) (by rfl) (by rfl) (fun h => by cases h) rfl
def ty190 : TyI := { und := (.int .i32), size := 1, bytes := 4, zero := (.int .i32 0), eqok := false, comp := true, methods := [] }
theorem tyOk190 : TyOk Tryz.prog 190 ty190 := TyOk.mk2 (z := (.int .i32 0)) (ms := #[]) (by kernel_rfl) (by kernel_rfl) (by rfl) (by rfl) (fun h => by cases h) rfl
def ty191 : TyI := { und := (.struct #[⟨"Name", 177, 0, false, "", "", 0⟩, ⟨"Mtyp", 178, 1, false, "", "", 4⟩, ⟨"Ifn", 190, 2, false, "", "", 8⟩, ⟨"Tfn", 190, 3, false, "", "", 12⟩]), size := 4, bytes := 16, zero := (.agg [(.int .i32 0), (.int .i32 0), (.int .i32 0), (.int .i32 0)]), eqok := false, comp := true, methods := [] }
theorem tyOk191 : TyOk Tryz.prog 191 ty191 := TyOk.mk2 (z := (.agg #[(.int .i32 0), (.int .i32 0), (.int .i32 0), (.int .i32 0)])) (ms := #[]) (by kernel_rfl) (by kernel_rfl) (by rfl) (by rfl) (fun h => by cases h) rfl
def ty192 : TyI := { und := (.struct #[⟨"Name", 177, 0, false, "", "", 0⟩, ⟨"Mtyp", 178, 1, false, "", "", 4⟩, ⟨"Ifn", 190, 2, false, "", "", 8⟩, ⟨"Tfn", 190, 3, false, "", "", 12⟩]), size := 4, bytes := 16, zero := (.agg [(.int .i32 0), (.int .i32 0), (.int .i32 0), (.int .i32 0)]), eqok := false, comp := true, methods := [] }
theorem tyOk192 : TyOk Tryz.prog 192 ty192 := TyOk.mk2 (z := (.agg #[(.int .i32 0), (.int .i32 0), (.int .i32 0), (.int .i32 0)])) (ms := #[]) (by kernel_rfl) (by kernel_rfl) (by rfl) (by rfl) (fun h => by cases h) rfl
def ty193 : TyI := { und := (.pointer 73), size := 1, bytes := 8, zero := .nilp, eqok := false, comp := true, methods := [] }
theorem tyOk193 : TyOk Tryz.prog 193 ty193 := TyOk.mk2 (z := (.pointer none)) (ms := #[]) (by kernel_rfl) (by kernel_rfl) (by rfl) (by rfl) (fun h => by cases h) rfl
def tyOf : TypeId → Option TyI
  | 2 => some ty2
  | 3 => some ty3
  | 4 => some ty4
  | 5 => some ty5
  | 6 => some ty6
  | 7 => some ty7
  | 8 => some ty8
  | 9 => some ty9
  | 10 => some ty10
  | 11 => some ty11
  | 12 => some ty12
  | 13 => some ty13
  | 14 => some ty14
  | 15 => some ty15
  | 16 => some ty16
  | 17 => some ty17
  | 18 => some ty18
  | 19 => some ty19
  | 20 => some ty20
  | 21 => some ty21
  | 22 => some ty22
  | 23 => some ty23
  | 24 => some ty24
  | 25 => some ty25
  | 26 => some ty26
  | 27 => some ty27
  | 28 => some ty28
  | 31 => some ty31
  | 39 => some ty39
  | 40 => some ty40
  | 44 => some ty44
  | 45 => some ty45
  | 48 => some ty48
  | 49 => some ty49
  | 50 => some ty50
  | 72 => some ty72
  | 73 => some ty73
  | 77 => some ty77
  | 80 => some ty80
  | 81 => some ty81
  | 96 => some ty96
  | 97 => some ty97
  | 98 => some ty98
  | 100 => some ty100
  | 101 => some ty101
  | 102 => some ty102
  | 103 => some ty103
  | 105 => some ty105
  | 106 => some ty106
  | 108 => some ty108
  | 115 => some ty115
  | 120 => some ty120
  | 121 => some ty121
  | 122 => some ty122
  | 133 => some ty133
  | 134 => some ty134
  | 135 => some ty135
  | 139 => some ty139
  | 142 => some ty142
  | 144 => some ty144
  | 145 => some ty145
  | 156 => some ty156
  | 157 => some ty157
  | 158 => some ty158
  | 159 => some ty159
  | 164 => some ty164
  | 167 => some ty167
  | 168 => some ty168
  | 169 => some ty169
  | 170 => some ty170
  | 171 => some ty171
  | 174 => some ty174
  | 175 => some ty175
  | 177 => some ty177
  | 178 => some ty178
  | 179 => some ty179
  | 180 => some ty180
  | 183 => some ty183
  | 184 => some ty184
  | 185 => some ty185
  | 187 => some ty187
  | 188 => some ty188
  | 189 => some ty189
  | 190 => some ty190
  | 191 => some ty191
  | 192 => some ty192
  | 193 => some ty193
  | _ => none
def ctx : Ctx := ⟨tyOf, fun _ => false, [(0, .iface 134 (.agg #[.pointer (some ⟨2, 73, none⟩)]))]⟩
theorem ctxOk : CtxTy Tryz.prog ctx := ⟨by
  intro t ti h
  unfold ctx tyOf at h
  simp only at h
  split at h <;> first | (injection h with h; subst h; first | exact tyOk2 | exact tyOk3 | exact tyOk4 | exact tyOk5 | exact tyOk6 | exact tyOk7 | exact tyOk8 | exact tyOk9 | exact tyOk10 | exact tyOk11 | exact tyOk12 | exact tyOk13 | exact tyOk14 | exact tyOk15 | exact tyOk16 | exact tyOk17 | exact tyOk18 | exact tyOk19 | exact tyOk20 | exact tyOk21 | exact tyOk22 | exact tyOk23 | exact tyOk24 | exact tyOk25 | exact tyOk26 | exact tyOk27 | exact tyOk28 | exact tyOk31 | exact tyOk39 | exact tyOk40 | exact tyOk44 | exact tyOk45 | exact tyOk48 | exact tyOk49 | exact tyOk50 | exact tyOk72 | exact tyOk73 | exact tyOk77 | exact tyOk80 | exact tyOk81 | exact tyOk96 | exact tyOk97 | exact tyOk98 | exact tyOk100 | exact tyOk101 | exact tyOk102 | exact tyOk103 | exact tyOk105 | exact tyOk106 | exact tyOk108 | exact tyOk115 | exact tyOk120 | exact tyOk121 | exact tyOk122 | exact tyOk133 | exact tyOk134 | exact tyOk135 | exact tyOk139 | exact tyOk142 | exact tyOk144 | exact tyOk145 | exact tyOk156 | exact tyOk157 | exact tyOk158 | exact tyOk159 | exact tyOk164 | exact tyOk167 | exact tyOk168 | exact tyOk169 | exact tyOk170 | exact tyOk171 | exact tyOk174 | exact tyOk175 | exact tyOk177 | exact tyOk178 | exact tyOk179 | exact tyOk180 | exact tyOk183 | exact tyOk184 | exact tyOk185 | exact tyOk187 | exact tyOk188 | exact tyOk189 | exact tyOk190 | exact tyOk191 | exact tyOk192 | exact tyOk193) | cases h⟩
end Go.Proofs.YtbinlabnilidiaaGreatDoor.M
