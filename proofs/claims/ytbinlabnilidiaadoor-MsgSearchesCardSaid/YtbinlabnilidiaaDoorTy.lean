/- The types, as the abstract machine has them (made by a program of mine, gen.py). -/
import Derived.Test.YtbinlabnilidiaaDoorPamM2
import Derived.Test.YtbinlabnilidiaaDoorProg
namespace Go.Proofs.YtbinlabnilidiaaDoor.M
set_option linter.unusedVariables false
set_option linter.unusedSimpArgs false
open Go Go.Pam

def ty2 : TyI := { und := (.int .i64), size := 1, bytes := 8, zero := (.int .i64 0), eqok := false, comp := true, methods := [] }
theorem tyOk2 : TyOk Tryd.prog 2 ty2 := TyOk.mk2 (z := (.int .i64 0)) (ms := #[]) (by kernel_rfl) (by kernel_rfl) (by rfl) (by rfl) (fun h => by cases h) rfl
def ty3 : TyI := { und := (.int .i64), size := 1, bytes := 8, zero := (.int .i64 0), eqok := false, comp := true, methods := [] }
theorem tyOk3 : TyOk Tryd.prog 3 ty3 := TyOk.mk2 (z := (.int .i64 0)) (ms := #[]) (by kernel_rfl) (by kernel_rfl) (by rfl) (by rfl) (fun h => by cases h) rfl
def ty4 : TyI := { und := .bool, size := 1, bytes := 1, zero := (.bool false), eqok := false, comp := true, methods := [] }
theorem tyOk4 : TyOk Tryd.prog 4 ty4 := TyOk.mk2 (z := (.bool false)) (ms := #[]) (by kernel_rfl) (by kernel_rfl) (by rfl) (by rfl) (fun h => by cases h) rfl
def ty5 : TyI := { und := (.int .u8), size := 1, bytes := 1, zero := (.int .u8 0), eqok := false, comp := true, methods := [] }
theorem tyOk5 : TyOk Tryd.prog 5 ty5 := TyOk.mk2 (z := (.int .u8 0)) (ms := #[]) (by kernel_rfl) (by kernel_rfl) (by rfl) (by rfl) (fun h => by cases h) rfl
def ty6 : TyI := { und := (.int .u8), size := 1, bytes := 1, zero := (.int .u8 0), eqok := false, comp := true, methods := [] }
theorem tyOk6 : TyOk Tryd.prog 6 ty6 := TyOk.mk2 (z := (.int .u8 0)) (ms := #[]) (by kernel_rfl) (by kernel_rfl) (by rfl) (by rfl) (fun h => by cases h) rfl
def ty7 : TyI := { und := (.struct #[⟨"x", 2, 0, false, "", "runtime", 0⟩, ⟨"y", 3, 1, false, "", "runtime", 8⟩, ⟨"signed", 4, 2, false, "", "runtime", 16⟩, ⟨"code", 6, 3, false, "", "runtime", 17⟩]), size := 4, bytes := 24, zero := (.agg [(.int .i64 0), (.int .i64 0), (.bool false), (.int .u8 0)]), eqok := false, comp := true, methods := [] }
theorem tyOk7 : TyOk Tryd.prog 7 ty7 := TyOk.mk2 (z := (.agg #[(.int .i64 0), (.int .i64 0), (.bool false), (.int .u8 0)])) (ms := #[]) (by kernel_rfl) (by kernel_rfl) (by rfl) (by rfl) (fun h => by cases h) rfl
def ty8 : TyI := { und := (.struct #[⟨"x", 2, 0, false, "", "runtime", 0⟩, ⟨"y", 3, 1, false, "", "runtime", 8⟩, ⟨"signed", 4, 2, false, "", "runtime", 16⟩, ⟨"code", 6, 3, false, "", "runtime", 17⟩]), size := 4, bytes := 24, zero := (.agg [(.int .i64 0), (.int .i64 0), (.bool false), (.int .u8 0)]), eqok := false, comp := true, methods := [⟨"Error", 150, #[], some (84, false)⟩, ⟨"RuntimeError", 1, #[], some (85, false)⟩] }
theorem tyOk8 : TyOk Tryd.prog 8 ty8 := TyOk.mk2 (z := (.agg #[(.int .i64 0), (.int .i64 0), (.bool false), (.int .u8 0)])) (ms := #[⟨"Error", 150, #[], some (84, false)⟩, ⟨"RuntimeError", 1, #[], some (85, false)⟩]) (by kernel_rfl) (by kernel_rfl) (by rfl) (by rfl) (fun h => by cases h) rfl
def ty9 : TyI := { und := .string, size := 1, bytes := 16, zero := (.str []), eqok := false, comp := true, methods := [] }
theorem tyOk9 : TyOk Tryd.prog 9 ty9 := TyOk.mk2 (z := (.string ⟨#[]⟩)) (ms := #[]) (by kernel_rfl) (by kernel_rfl) (by rfl) (by rfl) (fun h => by cases h) rfl
def ty10 : TyI := { und := .string, size := 1, bytes := 16, zero := (.str []), eqok := false, comp := true, methods := [⟨"Error", 150, #[], some (86, false)⟩, ⟨"RuntimeError", 1, #[], some (87, false)⟩] }
theorem tyOk10 : TyOk Tryd.prog 10 ty10 := TyOk.mk2 (z := (.string ⟨#[]⟩)) (ms := #[⟨"Error", 150, #[], some (86, false)⟩, ⟨"RuntimeError", 1, #[], some (87, false)⟩]) (by kernel_rfl) (by kernel_rfl) (by rfl) (by rfl) (fun h => by cases h) rfl
def ty11 : TyI := { und := .string, size := 1, bytes := 16, zero := (.str []), eqok := false, comp := true, methods := [⟨"Error", 150, #[], some (88, false)⟩, ⟨"RuntimeError", 1, #[], some (89, false)⟩] }
theorem tyOk11 : TyOk Tryd.prog 11 ty11 := TyOk.mk2 (z := (.string ⟨#[]⟩)) (ms := #[⟨"Error", 150, #[], some (88, false)⟩, ⟨"RuntimeError", 1, #[], some (89, false)⟩]) (by kernel_rfl) (by kernel_rfl) (by rfl) (by rfl) (fun h => by cases h) rfl
def ty12 : TyI := { und := (.int .u64), size := 1, bytes := 8, zero := (.int .u64 0), eqok := false, comp := true, methods := [] }
theorem tyOk12 : TyOk Tryd.prog 12 ty12 := TyOk.mk2 (z := (.int .u64 0)) (ms := #[]) (by kernel_rfl) (by kernel_rfl) (by rfl) (by rfl) (fun h => by cases h) rfl
def ty13 : TyI := { und := (.struct #[⟨"msg", 9, 0, false, "", "runtime", 0⟩, ⟨"addr", 12, 1, false, "", "runtime", 16⟩]), size := 2, bytes := 24, zero := (.agg [(.str []), (.int .u64 0)]), eqok := false, comp := true, methods := [] }
theorem tyOk13 : TyOk Tryd.prog 13 ty13 := TyOk.mk2 (z := (.agg #[(.string ⟨#[]⟩), (.int .u64 0)])) (ms := #[]) (by kernel_rfl) (by kernel_rfl) (by rfl) (by rfl) (fun h => by cases h) rfl
def ty14 : TyI := { und := (.struct #[⟨"msg", 9, 0, false, "", "runtime", 0⟩, ⟨"addr", 12, 1, false, "", "runtime", 16⟩]), size := 2, bytes := 24, zero := (.agg [(.str []), (.int .u64 0)]), eqok := false, comp := true, methods := [⟨"Error", 150, #[], some (90, false)⟩, ⟨"RuntimeError", 1, #[], some (91, false)⟩] }
theorem tyOk14 : TyOk Tryd.prog 14 ty14 := TyOk.mk2 (z := (.agg #[(.string ⟨#[]⟩), (.int .u64 0)])) (ms := #[⟨"Error", 150, #[], some (90, false)⟩, ⟨"RuntimeError", 1, #[], some (91, false)⟩]) (by kernel_rfl) (by kernel_rfl) (by rfl) (by rfl) (fun h => by cases h) rfl
def ty15 : TyI := { und := (.pointer 155), size := 1, bytes := 8, zero := .nilp, eqok := false, comp := true, methods := [⟨"Error", 150, #[], some (92, true)⟩, ⟨"RuntimeError", 1, #[], some (93, true)⟩] }
theorem tyOk15 : TyOk Tryd.prog 15 ty15 := TyOk.mk2 (z := (.pointer none)) (ms := #[⟨"Error", 150, #[], some (92, true)⟩, ⟨"RuntimeError", 1, #[], some (93, true)⟩]) (by kernel_rfl) (by kernel_rfl) (by rfl) (by rfl) (fun h => by cases h) rfl
def ty16 : TyI := { und := (.pointer 158), size := 1, bytes := 8, zero := .nilp, eqok := false, comp := true, methods := [⟨"Error", 150, #[], some (94, true)⟩, ⟨"RuntimeError", 1, #[], some (95, true)⟩] }
theorem tyOk16 : TyOk Tryd.prog 16 ty16 := TyOk.mk2 (z := (.pointer none)) (ms := #[⟨"Error", 150, #[], some (94, true)⟩, ⟨"RuntimeError", 1, #[], some (95, true)⟩]) (by kernel_rfl) (by kernel_rfl) (by rfl) (by rfl) (fun h => by cases h) rfl
def ty17 : TyI := { und := (.pointer 167), size := 1, bytes := 8, zero := .nilp, eqok := false, comp := true, methods := [⟨"Align", 159, #[], some (96, true)⟩, ⟨"Elem", 160, #[], some (97, true)⟩, ⟨"Kind", 93, #[], some (98, true)⟩, ⟨"Size", 168, #[], some (107, true)⟩] }
theorem tyOk17 : TyOk Tryd.prog 17 ty17 := TyOk.mk2 (z := (.pointer none)) (ms := #[⟨"Align", 159, #[], some (96, true)⟩, ⟨"Elem", 160, #[], some (97, true)⟩, ⟨"Kind", 93, #[], some (98, true)⟩, ⟨"Size", 168, #[], some (107, true)⟩]) (by kernel_rfl) (by kernel_rfl) (by rfl) (by rfl) (fun h => by cases h) rfl
def ty18 : TyI := { und := (.struct #[⟨"typ", 17, 0, false, "", "internal/runtime/maps", 0⟩]), size := 1, bytes := 8, zero := (.agg [.nilp]), eqok := false, comp := true, methods := [] }
theorem tyOk18 : TyOk Tryd.prog 18 ty18 := TyOk.mk2 (z := (.agg #[(.pointer none)])) (ms := #[]) (by kernel_rfl) (by kernel_rfl) (by rfl) (by rfl) (fun h => by cases h) rfl
def ty19 : TyI := { und := (.struct #[⟨"typ", 17, 0, false, "", "internal/runtime/maps", 0⟩]), size := 1, bytes := 8, zero := (.agg [.nilp]), eqok := false, comp := true, methods := [⟨"Error", 150, #[], some (99, false)⟩, ⟨"RuntimeError", 1, #[], some (100, false)⟩] }
theorem tyOk19 : TyOk Tryd.prog 19 ty19 := TyOk.mk2 (z := (.agg #[(.pointer none)])) (ms := #[⟨"Error", 150, #[], some (99, false)⟩, ⟨"RuntimeError", 1, #[], some (100, false)⟩]) (by kernel_rfl) (by kernel_rfl) (by rfl) (by rfl) (fun h => by cases h) rfl
def ty20 : TyI := { und := (.interface #[]), size := 1, bytes := 16, zero := .nili, eqok := false, comp := true, methods := [] }
theorem tyOk20 : TyOk Tryd.prog 20 ty20 := TyOk.mk2 (z := .nilIface) (ms := #[]) (by kernel_rfl) (by kernel_rfl) (by rfl) (by rfl) (fun h => by cases h) rfl
def ty21 : TyI := { und := (.int .i32), size := 1, bytes := 4, zero := (.int .i32 0), eqok := false, comp := true, methods := [] }
theorem tyOk21 : TyOk Tryd.prog 21 ty21 := TyOk.mk2 (z := (.int .i32 0)) (ms := #[]) (by kernel_rfl) (by kernel_rfl) (by rfl) (by rfl) (fun h => by cases h) rfl
def ty22 : TyI := { und := (.int .u16), size := 1, bytes := 2, zero := (.int .u16 0), eqok := false, comp := true, methods := [] }
theorem tyOk22 : TyOk Tryd.prog 22 ty22 := TyOk.mk2 (z := (.int .u16 0)) (ms := #[]) (by kernel_rfl) (by kernel_rfl) (by rfl) (by rfl) (fun h => by cases h) rfl
def ty24 : TyI := { und := (.array 7 3), size := 7, bytes := 56, zero := (.agg [(.int .i64 0), (.int .i64 0), (.int .i64 0), (.int .i64 0), (.int .i64 0), (.int .i64 0), (.int .i64 0)]), eqok := false, comp := true, methods := [] }
theorem tyOk24 : TyOk Tryd.prog 24 ty24 := TyOk.mk2 (z := (.agg #[(.int .i64 0), (.int .i64 0), (.int .i64 0), (.int .i64 0), (.int .i64 0), (.int .i64 0), (.int .i64 0)])) (ms := #[]) (by kernel_rfl) (by kernel_rfl) (by rfl) (by rfl) (fun h => by cases h) rfl
def ty25 : TyI := { und := (.slice 9), size := 1, bytes := 24, zero := .nils, eqok := false, comp := false, methods := [] }
theorem tyOk25 : TyOk Tryd.prog 25 ty25 := TyOk.mk2 (z := (.slice none 0 0)) (ms := #[]) (by kernel_rfl) (by kernel_rfl) (by rfl) (by rfl) (fun h => by cases h) rfl
def ty26 : TyI := { und := (.slice 28), size := 1, bytes := 24, zero := .nils, eqok := false, comp := false, methods := [] }
theorem tyOk26 : TyOk Tryd.prog 26 ty26 := TyOk.mk2 (z := (.slice none 0 0)) (ms := #[]) (by kernel_rfl) (by kernel_rfl) (by rfl) (by rfl) (fun h => by cases h) rfl
def ty27 : TyI := { und := (.struct #[⟨"Kind", 3, 0, false, "", "", 0⟩, ⟨"Attr", 9, 1, false, "", "", 8⟩, ⟨"Value", 9, 2, false, "", "", 24⟩, ⟨"Subs", 25, 3, false, "", "", 40⟩, ⟨"Kids", 26, 4, false, "", "", 64⟩]), size := 5, bytes := 88, zero := (.agg [(.int .i64 0), (.str []), (.str []), .nils, .nils]), eqok := false, comp := false, methods := [] }
theorem tyOk27 : TyOk Tryd.prog 27 ty27 := TyOk.mk2 (z := (.agg #[(.int .i64 0), (.string ⟨#[]⟩), (.string ⟨#[]⟩), (.slice none 0 0), (.slice none 0 0)])) (ms := #[]) (by kernel_rfl) (by kernel_rfl) (by rfl) (by rfl) (fun h => by cases h) rfl
def ty28 : TyI := { und := (.struct #[⟨"Kind", 3, 0, false, "", "", 0⟩, ⟨"Attr", 9, 1, false, "", "", 8⟩, ⟨"Value", 9, 2, false, "", "", 24⟩, ⟨"Subs", 25, 3, false, "", "", 40⟩, ⟨"Kids", 26, 4, false, "", "", 64⟩]), size := 5, bytes := 88, zero := (.agg [(.int .i64 0), (.str []), (.str []), .nils, .nils]), eqok := false, comp := false, methods := [] }
theorem tyOk28 : TyOk Tryd.prog 28 ty28 := TyOk.mk2 (z := (.agg #[(.int .i64 0), (.string ⟨#[]⟩), (.string ⟨#[]⟩), (.slice none 0 0), (.slice none 0 0)])) (ms := #[]) (by kernel_rfl) (by kernel_rfl) (by rfl) (by rfl) (fun h => by cases h) rfl
def ty29 : TyI := { und := (.slice 66), size := 1, bytes := 24, zero := .nils, eqok := false, comp := false, methods := [] }
theorem tyOk29 : TyOk Tryd.prog 29 ty29 := TyOk.mk2 (z := (.slice none 0 0)) (ms := #[]) (by kernel_rfl) (by kernel_rfl) (by rfl) (by rfl) (fun h => by cases h) rfl
def ty30 : TyI := { und := (.struct #[⟨"ID", 3, 0, false, "", "", 0⟩, ⟨"Op", 3, 1, false, "", "", 8⟩, ⟨"Of", 3, 2, false, "", "", 16⟩, ⟨"DN", 9, 3, false, "", "", 24⟩, ⟨"Version", 3, 4, false, "", "", 40⟩, ⟨"Pass", 9, 5, false, "", "", 48⟩, ⟨"Scope", 3, 6, false, "", "", 64⟩, ⟨"Size", 3, 7, false, "", "", 72⟩, ⟨"Filter", 28, 8, false, "", "", 80⟩, ⟨"Wants", 25, 13, false, "", "", 168⟩, ⟨"Mods", 29, 14, false, "", "", 192⟩, ⟨"RDN", 9, 15, false, "", "", 216⟩, ⟨"DelOld", 4, 16, false, "", "", 232⟩, ⟨"HasSup", 4, 17, false, "", "", 233⟩, ⟨"Sup", 9, 18, false, "", "", 240⟩, ⟨"Attr", 9, 19, false, "", "", 256⟩, ⟨"Value", 9, 20, false, "", "", 272⟩, ⟨"Code", 3, 21, false, "", "", 288⟩, ⟨"Matched", 9, 22, false, "", "", 296⟩]), size := 23, bytes := 312, zero := (.agg [(.int .i64 0), (.int .i64 0), (.int .i64 0), (.str []), (.int .i64 0), (.str []), (.int .i64 0), (.int .i64 0), (.int .i64 0), (.str []), (.str []), .nils, .nils, .nils, .nils, (.str []), (.bool false), (.bool false), (.str []), (.str []), (.str []), (.int .i64 0), (.str [])]), eqok := false, comp := false, methods := [] }
theorem tyOk30 : TyOk Tryd.prog 30 ty30 := TyOk.mk2 (z := (.agg #[(.int .i64 0), (.int .i64 0), (.int .i64 0), (.string ⟨#[]⟩), (.int .i64 0), (.string ⟨#[]⟩), (.int .i64 0), (.int .i64 0), (.int .i64 0), (.string ⟨#[]⟩), (.string ⟨#[]⟩), (.slice none 0 0), (.slice none 0 0), (.slice none 0 0), (.slice none 0 0), (.string ⟨#[]⟩), (.bool false), (.bool false), (.string ⟨#[]⟩), (.string ⟨#[]⟩), (.string ⟨#[]⟩), (.int .i64 0), (.string ⟨#[]⟩)])) (ms := #[]) (by kernel_rfl) (by kernel_rfl) (by rfl) (by rfl) (fun h => by cases h) rfl
def ty31 : TyI := { und := (.struct #[⟨"ID", 3, 0, false, "", "", 0⟩, ⟨"Op", 3, 1, false, "", "", 8⟩, ⟨"Of", 3, 2, false, "", "", 16⟩, ⟨"DN", 9, 3, false, "", "", 24⟩, ⟨"Version", 3, 4, false, "", "", 40⟩, ⟨"Pass", 9, 5, false, "", "", 48⟩, ⟨"Scope", 3, 6, false, "", "", 64⟩, ⟨"Size", 3, 7, false, "", "", 72⟩, ⟨"Filter", 28, 8, false, "", "", 80⟩, ⟨"Wants", 25, 13, false, "", "", 168⟩, ⟨"Mods", 29, 14, false, "", "", 192⟩, ⟨"RDN", 9, 15, false, "", "", 216⟩, ⟨"DelOld", 4, 16, false, "", "", 232⟩, ⟨"HasSup", 4, 17, false, "", "", 233⟩, ⟨"Sup", 9, 18, false, "", "", 240⟩, ⟨"Attr", 9, 19, false, "", "", 256⟩, ⟨"Value", 9, 20, false, "", "", 272⟩, ⟨"Code", 3, 21, false, "", "", 288⟩, ⟨"Matched", 9, 22, false, "", "", 296⟩]), size := 23, bytes := 312, zero := (.agg [(.int .i64 0), (.int .i64 0), (.int .i64 0), (.str []), (.int .i64 0), (.str []), (.int .i64 0), (.int .i64 0), (.int .i64 0), (.str []), (.str []), .nils, .nils, .nils, .nils, (.str []), (.bool false), (.bool false), (.str []), (.str []), (.str []), (.int .i64 0), (.str [])]), eqok := false, comp := false, methods := [] }
theorem tyOk31 : TyOk Tryd.prog 31 ty31 := TyOk.mk2 (z := (.agg #[(.int .i64 0), (.int .i64 0), (.int .i64 0), (.string ⟨#[]⟩), (.int .i64 0), (.string ⟨#[]⟩), (.int .i64 0), (.int .i64 0), (.int .i64 0), (.string ⟨#[]⟩), (.string ⟨#[]⟩), (.slice none 0 0), (.slice none 0 0), (.slice none 0 0), (.slice none 0 0), (.string ⟨#[]⟩), (.bool false), (.bool false), (.string ⟨#[]⟩), (.string ⟨#[]⟩), (.string ⟨#[]⟩), (.int .i64 0), (.string ⟨#[]⟩)])) (ms := #[]) (by kernel_rfl) (by kernel_rfl) (by rfl) (by rfl) (fun h => by cases h) rfl
def ty32 : TyI := { und := (.int .i64), size := 1, bytes := 8, zero := (.int .i64 0), eqok := false, comp := true, methods := [⟨"Error", 150, #[], some (101, false)⟩] }
theorem tyOk32 : TyOk Tryd.prog 32 ty32 := TyOk.mk2 (z := (.int .i64 0)) (ms := #[⟨"Error", 150, #[], some (101, false)⟩]) (by kernel_rfl) (by kernel_rfl) (by rfl) (by rfl) (fun h => by cases h) rfl
def ty42 : TyI := { und := (.slice 44), size := 1, bytes := 24, zero := .nils, eqok := false, comp := false, methods := [] }
theorem tyOk42 : TyOk Tryd.prog 42 ty42 := TyOk.mk2 (z := (.slice none 0 0)) (ms := #[]) (by kernel_rfl) (by kernel_rfl) (by rfl) (by rfl) (fun h => by cases h) rfl
def ty43 : TyI := { und := (.struct #[⟨"Tag", 5, 0, false, "", "", 0⟩, ⟨"Body", 9, 1, false, "", "", 8⟩, ⟨"Kids", 42, 2, false, "", "", 24⟩]), size := 3, bytes := 48, zero := (.agg [(.int .u8 0), (.str []), .nils]), eqok := false, comp := false, methods := [] }
theorem tyOk43 : TyOk Tryd.prog 43 ty43 := TyOk.mk2 (z := (.agg #[(.int .u8 0), (.string ⟨#[]⟩), (.slice none 0 0)])) (ms := #[]) (by kernel_rfl) (by kernel_rfl) (by rfl) (by rfl) (fun h => by cases h) rfl
def ty44 : TyI := { und := (.struct #[⟨"Tag", 5, 0, false, "", "", 0⟩, ⟨"Body", 9, 1, false, "", "", 8⟩, ⟨"Kids", 42, 2, false, "", "", 24⟩]), size := 3, bytes := 48, zero := (.agg [(.int .u8 0), (.str []), .nils]), eqok := false, comp := false, methods := [] }
theorem tyOk44 : TyOk Tryd.prog 44 ty44 := TyOk.mk2 (z := (.agg #[(.int .u8 0), (.string ⟨#[]⟩), (.slice none 0 0)])) (ms := #[]) (by kernel_rfl) (by kernel_rfl) (by rfl) (by rfl) (fun h => by cases h) rfl
def ty51 : TyI := { und := (.interface #[("Error", 150)]), size := 1, bytes := 16, zero := .nili, eqok := false, comp := true, methods := [] }
theorem tyOk51 : TyOk Tryd.prog 51 ty51 := TyOk.mk2 (z := .nilIface) (ms := #[]) (by kernel_rfl) (by kernel_rfl) (by rfl) (by rfl) (fun h => by cases h) rfl
def ty52 : TyI := { und := (.interface #[("Error", 150)]), size := 1, bytes := 16, zero := .nili, eqok := false, comp := true, methods := [] }
theorem tyOk52 : TyOk Tryd.prog 52 ty52 := TyOk.mk2 (z := .nilIface) (ms := #[]) (by kernel_rfl) (by kernel_rfl) (by rfl) (by rfl) (fun h => by cases h) rfl
def ty56 : TyI := { und := (.pointer 32), size := 1, bytes := 8, zero := .nilp, eqok := false, comp := true, methods := [⟨"Error", 150, #[], some (101, false)⟩] }
theorem tyOk56 : TyOk Tryd.prog 56 ty56 := TyOk.mk2 (z := (.pointer none)) (ms := #[⟨"Error", 150, #[], some (101, false)⟩]) (by kernel_rfl) (by kernel_rfl) (by rfl) (by rfl) (fun h => by cases h) rfl
def ty65 : TyI := { und := (.struct #[⟨"Kind", 3, 0, false, "", "", 0⟩, ⟨"Attr", 9, 1, false, "", "", 8⟩, ⟨"Values", 25, 2, false, "", "", 24⟩]), size := 3, bytes := 48, zero := (.agg [(.int .i64 0), (.str []), .nils]), eqok := false, comp := false, methods := [] }
theorem tyOk65 : TyOk Tryd.prog 65 ty65 := TyOk.mk2 (z := (.agg #[(.int .i64 0), (.string ⟨#[]⟩), (.slice none 0 0)])) (ms := #[]) (by kernel_rfl) (by kernel_rfl) (by rfl) (by rfl) (fun h => by cases h) rfl
def ty66 : TyI := { und := (.struct #[⟨"Kind", 3, 0, false, "", "", 0⟩, ⟨"Attr", 9, 1, false, "", "", 8⟩, ⟨"Values", 25, 2, false, "", "", 24⟩]), size := 3, bytes := 48, zero := (.agg [(.int .i64 0), (.str []), .nils]), eqok := false, comp := false, methods := [] }
theorem tyOk66 : TyOk Tryd.prog 66 ty66 := TyOk.mk2 (z := (.agg #[(.int .i64 0), (.string ⟨#[]⟩), (.slice none 0 0)])) (ms := #[]) (by kernel_rfl) (by kernel_rfl) (by rfl) (by rfl) (fun h => by cases h) rfl
def ty68 : TyI := { und := (.array 9 5), size := 9, bytes := 9, zero := (.agg [(.int .u8 0), (.int .u8 0), (.int .u8 0), (.int .u8 0), (.int .u8 0), (.int .u8 0), (.int .u8 0), (.int .u8 0), (.int .u8 0)]), eqok := false, comp := true, methods := [] }
theorem tyOk68 : TyOk Tryd.prog 68 ty68 := TyOk.mk2 (z := (.agg #[(.int .u8 0), (.int .u8 0), (.int .u8 0), (.int .u8 0), (.int .u8 0), (.int .u8 0), (.int .u8 0), (.int .u8 0), (.int .u8 0)])) (ms := #[]) (by kernel_rfl) (by kernel_rfl) (by rfl) (by rfl) (fun h => by cases h) rfl
def ty69 : TyI := { und := (.array 11 5), size := 11, bytes := 11, zero := (.agg [(.int .u8 0), (.int .u8 0), (.int .u8 0), (.int .u8 0), (.int .u8 0), (.int .u8 0), (.int .u8 0), (.int .u8 0), (.int .u8 0), (.int .u8 0), (.int .u8 0)]), eqok := false, comp := true, methods := [] }
theorem tyOk69 : TyOk Tryd.prog 69 ty69 := TyOk.mk2 (z := (.agg #[(.int .u8 0), (.int .u8 0), (.int .u8 0), (.int .u8 0), (.int .u8 0), (.int .u8 0), (.int .u8 0), (.int .u8 0), (.int .u8 0), (.int .u8 0), (.int .u8 0)])) (ms := #[]) (by kernel_rfl) (by kernel_rfl) (by rfl) (by rfl) (fun h => by cases h) rfl
def ty80 : TyI := { und := (.pointer 82), size := 1, bytes := 8, zero := .nilp, eqok := false, comp := true, methods := [⟨"Error", 150, #[], some (102, true)⟩, ⟨"Unwrap", 128, #[], some (103, true)⟩] }
theorem tyOk80 : TyOk Tryd.prog 80 ty80 := TyOk.mk2 (z := (.pointer none)) (ms := #[⟨"Error", 150, #[], some (102, true)⟩, ⟨"Unwrap", 128, #[], some (103, true)⟩]) (by kernel_rfl) (by kernel_rfl) (by rfl) (by rfl) (fun h => by cases h) rfl
def ty81 : TyI := { und := (.struct #[⟨"E", 52, 0, false, "", "", 0⟩, ⟨"At", 3, 1, false, "", "", 16⟩]), size := 2, bytes := 24, zero := (.agg [.nili, (.int .i64 0)]), eqok := false, comp := true, methods := [] }
theorem tyOk81 : TyOk Tryd.prog 81 ty81 := TyOk.mk2 (z := (.agg #[.nilIface, (.int .i64 0)])) (ms := #[]) (by kernel_rfl) (by kernel_rfl) (by rfl) (by rfl) (fun h => by cases h) rfl
def ty82 : TyI := { und := (.struct #[⟨"E", 52, 0, false, "", "", 0⟩, ⟨"At", 3, 1, false, "", "", 16⟩]), size := 2, bytes := 24, zero := (.agg [.nili, (.int .i64 0)]), eqok := false, comp := true, methods := [] }
theorem tyOk82 : TyOk Tryd.prog 82 ty82 := TyOk.mk2 (z := (.agg #[.nilIface, (.int .i64 0)])) (ms := #[]) (by kernel_rfl) (by kernel_rfl) (by rfl) (by rfl) (fun h => by cases h) rfl
def ty84 : TyI := { und := .unsafePointer, size := 1, bytes := 8, zero := .nilp, eqok := false, comp := true, methods := [] }
theorem tyOk84 : TyOk Tryd.prog 84 ty84 := TyOk.mk2 (z := (.pointer none)) (ms := #[]) (by kernel_rfl) (by kernel_rfl) (by rfl) (by rfl) (fun h => by cases h) rfl
def ty85 : TyI := { und := (.int .u64), size := 1, bytes := 8, zero := (.int .u64 0), eqok := false, comp := true, methods := [⟨"internal/reflectlite.mustBeAssignable", 1, #[], some (104, false)⟩] }
theorem tyOk85 : TyOk Tryd.prog 85 ty85 := TyOk.mk2 (z := (.int .u64 0)) (ms := #[⟨"internal/reflectlite.mustBeAssignable", 1, #[], some (104, false)⟩]) (by kernel_rfl) (by kernel_rfl) (by rfl) (by rfl) (fun h => by cases h) rfl
def ty86 : TyI := { und := (.struct #[⟨"typ_", 17, 0, false, "", "internal/reflectlite", 0⟩, ⟨"ptr", 84, 1, false, "", "internal/reflectlite", 8⟩, ⟨"flag", 85, 2, true, "", "internal/reflectlite", 16⟩]), size := 3, bytes := 24, zero := (.agg [.nilp, .nilp, (.int .u64 0)]), eqok := false, comp := true, methods := [⟨"internal/reflectlite.mustBeAssignable", 1, #[⟨86, 2, false⟩], some (104, false)⟩] }
theorem tyOk86 : TyOk Tryd.prog 86 ty86 := TyOk.mk2 (z := (.agg #[(.pointer none), (.pointer none), (.int .u64 0)])) (ms := #[⟨"internal/reflectlite.mustBeAssignable", 1, #[⟨86, 2, false⟩], some (104, false)⟩]) (by kernel_rfl) (by kernel_rfl) (by rfl) (by rfl) (fun h => by cases h) rfl
def ty87 : TyI := { und := (.struct #[⟨"typ_", 17, 0, false, "", "internal/reflectlite", 0⟩, ⟨"ptr", 84, 1, false, "", "internal/reflectlite", 8⟩, ⟨"flag", 85, 2, true, "", "internal/reflectlite", 16⟩]), size := 3, bytes := 24, zero := (.agg [.nilp, .nilp, (.int .u64 0)]), eqok := false, comp := true, methods := [⟨"Elem", 122, #[], some (63, false)⟩, ⟨"IsNil", 23, #[], some (43, false)⟩, ⟨"Kind", 93, #[], some (105, false)⟩, ⟨"Set", 123, #[], some (64, false)⟩, ⟨"Type", 91, #[], some (42, false)⟩, ⟨"internal/reflectlite.mustBeAssignable", 1, #[⟨87, 2, false⟩], some (104, false)⟩] }
theorem tyOk87 : TyOk Tryd.prog 87 ty87 := TyOk.mk2 (z := (.agg #[(.pointer none), (.pointer none), (.int .u64 0)])) (ms := #[⟨"Elem", 122, #[], some (63, false)⟩, ⟨"IsNil", 23, #[], some (43, false)⟩, ⟨"Kind", 93, #[], some (105, false)⟩, ⟨"Set", 123, #[], some (64, false)⟩, ⟨"Type", 91, #[], some (42, false)⟩, ⟨"internal/reflectlite.mustBeAssignable", 1, #[⟨87, 2, false⟩], some (104, false)⟩]) (by kernel_rfl) (by kernel_rfl) (by rfl) (by rfl) (fun h => by cases h) rfl
def ty89 : TyI := { und := (.interface #[("AssignableTo", 94), ("Comparable", 23), ("Elem", 91), ("Implements", 94), ("Kind", 93), ("Name", 150), ("PkgPath", 150), ("Size", 168), ("String", 150), ("internal/reflectlite.common", 160), ("internal/reflectlite.uncommon", 169)]), size := 1, bytes := 16, zero := .nili, eqok := false, comp := true, methods := [] }
theorem tyOk89 : TyOk Tryd.prog 89 ty89 := TyOk.mk2 (z := .nilIface) (ms := #[]) (by kernel_rfl) (by kernel_rfl) (by rfl) (by rfl) (fun h => by cases h) rfl
def ty90 : TyI := { und := (.interface #[("AssignableTo", 94), ("Comparable", 23), ("Elem", 91), ("Implements", 94), ("Kind", 93), ("Name", 150), ("PkgPath", 150), ("Size", 168), ("String", 150), ("internal/reflectlite.common", 160), ("internal/reflectlite.uncommon", 169)]), size := 1, bytes := 16, zero := .nili, eqok := false, comp := true, methods := [] }
theorem tyOk90 : TyOk Tryd.prog 90 ty90 := TyOk.mk2 (z := .nilIface) (ms := #[]) (by kernel_rfl) (by kernel_rfl) (by rfl) (by rfl) (fun h => by cases h) rfl
def ty92 : TyI := { und := (.int .u8), size := 1, bytes := 1, zero := (.int .u8 0), eqok := false, comp := true, methods := [⟨"String", 150, #[], some (106, false)⟩] }
theorem tyOk92 : TyOk Tryd.prog 92 ty92 := TyOk.mk2 (z := (.int .u8 0)) (ms := #[⟨"String", 150, #[], some (106, false)⟩]) (by kernel_rfl) (by kernel_rfl) (by rfl) (by rfl) (fun h => by cases h) rfl
def ty102 : TyI := { und := (.slice 5), size := 1, bytes := 24, zero := .nils, eqok := false, comp := false, methods := [] }
theorem tyOk102 : TyOk Tryd.prog 102 ty102 := TyOk.mk2 (z := (.slice none 0 0)) (ms := #[]) (by kernel_rfl) (by kernel_rfl) (by rfl) (by rfl) (fun h => by cases h) rfl
def ty103 : TyI := { und := (.int .u64), size := 1, bytes := 8, zero := (.int .u64 0), eqok := false, comp := true, methods := [] }
theorem tyOk103 : TyOk Tryd.prog 103 ty103 := TyOk.mk2 (z := (.int .u64 0)) (ms := #[]) (by kernel_rfl) (by kernel_rfl) (by rfl) (by rfl) (fun h => by cases h) rfl
def ty105 : TyI := { und := (.pointer 107), size := 1, bytes := 8, zero := .nilp, eqok := false, comp := true, methods := [⟨"prefect/ber.read", 109, #[], some (54, true)⟩] }
theorem tyOk105 : TyOk Tryd.prog 105 ty105 := TyOk.mk2 (z := (.pointer none)) (ms := #[⟨"prefect/ber.read", 109, #[], some (54, true)⟩]) (by kernel_rfl) (by kernel_rfl) (by rfl) (by rfl) (fun h => by cases h) rfl
def ty106 : TyI := { und := (.struct #[⟨"s", 9, 0, false, "", "prefect/ber", 0⟩, ⟨"at", 3, 1, false, "", "prefect/ber", 16⟩]), size := 2, bytes := 24, zero := (.agg [(.str []), (.int .i64 0)]), eqok := false, comp := true, methods := [] }
theorem tyOk106 : TyOk Tryd.prog 106 ty106 := TyOk.mk2 (z := (.agg #[(.string ⟨#[]⟩), (.int .i64 0)])) (ms := #[]) (by kernel_rfl) (by kernel_rfl) (by rfl) (by rfl) (fun h => by cases h) rfl
def ty107 : TyI := { und := (.struct #[⟨"s", 9, 0, false, "", "prefect/ber", 0⟩, ⟨"at", 3, 1, false, "", "prefect/ber", 16⟩]), size := 2, bytes := 24, zero := (.agg [(.str []), (.int .i64 0)]), eqok := true, comp := true, methods := [] }
theorem tyOk107 : TyOk Tryd.prog 107 ty107 := TyOk.mk2 (z := (.agg #[(.string ⟨#[]⟩), (.int .i64 0)])) (ms := #[]) (by kernel_rfl) (by kernel_rfl) (by rfl) (by rfl) (fun _ => ⟨by kernel_rfl, by kernel_rfl⟩) rfl
def ty118 : TyI := { und := (.struct #[⟨"Type", 17, 0, true, "", "", 0⟩]), size := 1, bytes := 8, zero := (.agg [.nilp]), eqok := false, comp := true, methods := [⟨"Align", 159, #[⟨118, 0, false⟩], some (96, true)⟩, ⟨"Elem", 160, #[⟨118, 0, false⟩], some (97, true)⟩, ⟨"Kind", 93, #[⟨118, 0, false⟩], some (98, true)⟩, ⟨"Size", 168, #[⟨118, 0, false⟩], some (107, true)⟩] }
theorem tyOk118 : TyOk Tryd.prog 118 ty118 := TyOk.mk2 (z := (.agg #[(.pointer none)])) (ms := #[⟨"Align", 159, #[⟨118, 0, false⟩], some (96, true)⟩, ⟨"Elem", 160, #[⟨118, 0, false⟩], some (97, true)⟩, ⟨"Kind", 93, #[⟨118, 0, false⟩], some (98, true)⟩, ⟨"Size", 168, #[⟨118, 0, false⟩], some (107, true)⟩]) (by kernel_rfl) (by kernel_rfl) (by rfl) (by rfl) (fun h => by cases h) rfl
def ty119 : TyI := { und := (.struct #[⟨"Type", 17, 0, true, "", "", 0⟩]), size := 1, bytes := 8, zero := (.agg [.nilp]), eqok := false, comp := true, methods := [⟨"Align", 159, #[⟨119, 0, false⟩], some (96, true)⟩, ⟨"AssignableTo", 94, #[], some (108, false)⟩, ⟨"Comparable", 23, #[], some (109, false)⟩, ⟨"Elem", 91, #[], some (110, false)⟩, ⟨"Implements", 94, #[], some (111, false)⟩, ⟨"Kind", 93, #[⟨119, 0, false⟩], some (98, true)⟩, ⟨"Name", 150, #[], some (112, false)⟩, ⟨"PkgPath", 150, #[], some (113, false)⟩, ⟨"Size", 168, #[⟨119, 0, false⟩], some (107, true)⟩, ⟨"String", 150, #[], some (114, false)⟩, ⟨"internal/reflectlite.common", 160, #[], some (115, false)⟩, ⟨"internal/reflectlite.uncommon", 169, #[], some (116, false)⟩] }
theorem tyOk119 : TyOk Tryd.prog 119 ty119 := TyOk.mk2 (z := (.agg #[(.pointer none)])) (ms := #[⟨"Align", 159, #[⟨119, 0, false⟩], some (96, true)⟩, ⟨"AssignableTo", 94, #[], some (108, false)⟩, ⟨"Comparable", 23, #[], some (109, false)⟩, ⟨"Elem", 91, #[], some (110, false)⟩, ⟨"Implements", 94, #[], some (111, false)⟩, ⟨"Kind", 93, #[⟨119, 0, false⟩], some (98, true)⟩, ⟨"Name", 150, #[], some (112, false)⟩, ⟨"PkgPath", 150, #[], some (113, false)⟩, ⟨"Size", 168, #[⟨119, 0, false⟩], some (107, true)⟩, ⟨"String", 150, #[], some (114, false)⟩, ⟨"internal/reflectlite.common", 160, #[], some (115, false)⟩, ⟨"internal/reflectlite.uncommon", 169, #[], some (116, false)⟩]) (by kernel_rfl) (by kernel_rfl) (by rfl) (by rfl) (fun h => by cases h) rfl
def ty120 : TyI := { und := (.pointer 171), size := 1, bytes := 8, zero := .nilp, eqok := false, comp := true, methods := [⟨"Error", 150, #[], some (117, true)⟩] }
theorem tyOk120 : TyOk Tryd.prog 120 ty120 := TyOk.mk2 (z := (.pointer none)) (ms := #[⟨"Error", 150, #[], some (117, true)⟩]) (by kernel_rfl) (by kernel_rfl) (by rfl) (by rfl) (fun h => by cases h) rfl
def ty124 : TyI := { und := (.interface #[("As", 126)]), size := 1, bytes := 16, zero := .nili, eqok := false, comp := true, methods := [] }
theorem tyOk124 : TyOk Tryd.prog 124 ty124 := TyOk.mk2 (z := .nilIface) (ms := #[]) (by kernel_rfl) (by kernel_rfl) (by rfl) (by rfl) (fun h => by cases h) rfl
def ty127 : TyI := { und := (.interface #[("Unwrap", 128)]), size := 1, bytes := 16, zero := .nili, eqok := false, comp := true, methods := [] }
theorem tyOk127 : TyOk Tryd.prog 127 ty127 := TyOk.mk2 (z := .nilIface) (ms := #[]) (by kernel_rfl) (by kernel_rfl) (by rfl) (by rfl) (fun h => by cases h) rfl
def ty129 : TyI := { und := (.interface #[("Unwrap", 131)]), size := 1, bytes := 16, zero := .nili, eqok := false, comp := true, methods := [] }
theorem tyOk129 : TyOk Tryd.prog 129 ty129 := TyOk.mk2 (z := .nilIface) (ms := #[]) (by kernel_rfl) (by kernel_rfl) (by rfl) (by rfl) (fun h => by cases h) rfl
def ty130 : TyI := { und := (.slice 52), size := 1, bytes := 24, zero := .nils, eqok := false, comp := false, methods := [] }
theorem tyOk130 : TyOk Tryd.prog 130 ty130 := TyOk.mk2 (z := (.slice none 0 0)) (ms := #[]) (by kernel_rfl) (by kernel_rfl) (by rfl) (by rfl) (fun h => by cases h) rfl
def ty141 : TyI := { und := (.array 8 3), size := 8, bytes := 64, zero := (.agg [(.int .i64 0), (.int .i64 0), (.int .i64 0), (.int .i64 0), (.int .i64 0), (.int .i64 0), (.int .i64 0), (.int .i64 0)]), eqok := false, comp := true, methods := [] }
theorem tyOk141 : TyOk Tryd.prog 141 ty141 := TyOk.mk2 (z := (.agg #[(.int .i64 0), (.int .i64 0), (.int .i64 0), (.int .i64 0), (.int .i64 0), (.int .i64 0), (.int .i64 0), (.int .i64 0)])) (ms := #[]) (by kernel_rfl) (by kernel_rfl) (by rfl) (by rfl) (fun h => by cases h) rfl
def ty144 : TyI := { und := (.pointer 146), size := 1, bytes := 8, zero := .nilp, eqok := false, comp := true, methods := [⟨"Grow", 147, #[], some (77, true)⟩, ⟨"Reset", 1, #[], some (118, true)⟩, ⟨"String", 150, #[], some (79, true)⟩, ⟨"WriteString", 149, #[], some (78, true)⟩, ⟨"strings.copyCheck", 1, #[], some (80, true)⟩, ⟨"strings.grow", 147, #[], some (81, true)⟩] }
theorem tyOk144 : TyOk Tryd.prog 144 ty144 := TyOk.mk2 (z := (.pointer none)) (ms := #[⟨"Grow", 147, #[], some (77, true)⟩, ⟨"Reset", 1, #[], some (118, true)⟩, ⟨"String", 150, #[], some (79, true)⟩, ⟨"WriteString", 149, #[], some (78, true)⟩, ⟨"strings.copyCheck", 1, #[], some (80, true)⟩, ⟨"strings.grow", 147, #[], some (81, true)⟩]) (by kernel_rfl) (by kernel_rfl) (by rfl) (by rfl) (fun h => by cases h) rfl
def ty145 : TyI := { und := (.struct #[⟨"addr", 144, 0, false, "", "strings", 0⟩, ⟨"buf", 102, 1, false, "", "strings", 8⟩]), size := 2, bytes := 32, zero := (.agg [.nilp, .nils]), eqok := false, comp := false, methods := [] }
theorem tyOk145 : TyOk Tryd.prog 145 ty145 := TyOk.mk2 (z := (.agg #[(.pointer none), (.slice none 0 0)])) (ms := #[]) (by kernel_rfl) (by kernel_rfl) (by rfl) (by rfl) (fun h => by cases h) rfl
def ty146 : TyI := { und := (.struct #[⟨"addr", 144, 0, false, "", "strings", 0⟩, ⟨"buf", 102, 1, false, "", "strings", 8⟩]), size := 2, bytes := 32, zero := (.agg [.nilp, .nils]), eqok := false, comp := false, methods := [] }
theorem tyOk146 : TyOk Tryd.prog 146 ty146 := TyOk.mk2 (z := (.agg #[(.pointer none), (.slice none 0 0)])) (ms := #[]) (by kernel_rfl) (by kernel_rfl) (by rfl) (by rfl) (fun h => by cases h) rfl
def ty151 : TyI := { und := (.pointer 5), size := 1, bytes := 8, zero := .nilp, eqok := false, comp := true, methods := [] }
theorem tyOk151 : TyOk Tryd.prog 151 ty151 := TyOk.mk2 (z := (.pointer none)) (ms := #[]) (by kernel_rfl) (by kernel_rfl) (by rfl) (by rfl) (fun h => by cases h) rfl
def ty154 : TyI := { und := (.struct #[⟨"_interface", 17, 0, false, "", "runtime", 0⟩, ⟨"concrete", 17, 1, false, "", "runtime", 8⟩, ⟨"asserted", 17, 2, false, "", "runtime", 16⟩, ⟨"missingMethod", 9, 3, false, "", "runtime", 24⟩]), size := 4, bytes := 40, zero := (.agg [.nilp, .nilp, .nilp, (.str [])]), eqok := false, comp := true, methods := [] }
theorem tyOk154 : TyOk Tryd.prog 154 ty154 := TyOk.mk2 (z := (.agg #[(.pointer none), (.pointer none), (.pointer none), (.string ⟨#[]⟩)])) (ms := #[]) (by kernel_rfl) (by kernel_rfl) (by rfl) (by rfl) (fun h => by cases h) rfl
def ty155 : TyI := { und := (.struct #[⟨"_interface", 17, 0, false, "", "runtime", 0⟩, ⟨"concrete", 17, 1, false, "", "runtime", 8⟩, ⟨"asserted", 17, 2, false, "", "runtime", 16⟩, ⟨"missingMethod", 9, 3, false, "", "runtime", 24⟩]), size := 4, bytes := 40, zero := (.agg [.nilp, .nilp, .nilp, (.str [])]), eqok := false, comp := true, methods := [] }
theorem tyOk155 : TyOk Tryd.prog 155 ty155 := TyOk.mk2 (z := (.agg #[(.pointer none), (.pointer none), (.pointer none), (.string ⟨#[]⟩)])) (ms := #[]) (by kernel_rfl) (by kernel_rfl) (by rfl) (by rfl) (fun h => by cases h) rfl
def ty156 : TyI := { und := (.array 0 16), size := 0, bytes := 0, zero := (.agg []), eqok := false, comp := true, methods := [] }
theorem tyOk156 : TyOk Tryd.prog 156 ty156 := TyOk.mk2 (z := (.agg #[])) (ms := #[]) (by kernel_rfl) (by kernel_rfl) (by rfl) (by rfl) (fun h => by cases h) rfl
def ty157 : TyI := { und := (.struct #[⟨"_", 156, 0, false, "", "runtime", 0⟩]), size := 0, bytes := 0, zero := (.agg []), eqok := false, comp := true, methods := [] }
theorem tyOk157 : TyOk Tryd.prog 157 ty157 := TyOk.mk2 (z := (.agg #[])) (ms := #[]) (by kernel_rfl) (by kernel_rfl) (by rfl) (by rfl) (fun h => by cases h) rfl
def ty158 : TyI := { und := (.struct #[⟨"_", 156, 0, false, "", "runtime", 0⟩]), size := 0, bytes := 0, zero := (.agg []), eqok := false, comp := true, methods := [] }
theorem tyOk158 : TyOk Tryd.prog 158 ty158 := TyOk.mk2 (z := (.agg #[])) (ms := #[]) (by kernel_rfl) (by kernel_rfl) (by rfl) (by rfl) (fun h => by cases h) rfl
def ty161 : TyI := { und := (.int .u32), size := 1, bytes := 4, zero := (.int .u32 0), eqok := false, comp := true, methods := [] }
theorem tyOk161 : TyOk Tryd.prog 161 ty161 := TyOk.mk2 (z := (.int .u32 0)) (ms := #[]) (by kernel_rfl) (by kernel_rfl) (by rfl) (by rfl) (fun h => by cases h) rfl
def ty162 : TyI := { und := (.int .u8), size := 1, bytes := 1, zero := (.int .u8 0), eqok := false, comp := true, methods := [] }
theorem tyOk162 : TyOk Tryd.prog 162 ty162 := TyOk.mk2 (z := (.int .u8 0)) (ms := #[]) (by kernel_rfl) (by kernel_rfl) (by rfl) (by rfl) (fun h => by cases h) rfl
def ty164 : TyI := { und := (.int .i32), size := 1, bytes := 4, zero := (.int .i32 0), eqok := false, comp := true, methods := [] }
theorem tyOk164 : TyOk Tryd.prog 164 ty164 := TyOk.mk2 (z := (.int .i32 0)) (ms := #[]) (by kernel_rfl) (by kernel_rfl) (by rfl) (by rfl) (fun h => by cases h) rfl
def ty165 : TyI := { und := (.int .i32), size := 1, bytes := 4, zero := (.int .i32 0), eqok := false, comp := true, methods := [] }
theorem tyOk165 : TyOk Tryd.prog 165 ty165 := TyOk.mk2 (z := (.int .i32 0)) (ms := #[]) (by kernel_rfl) (by kernel_rfl) (by rfl) (by rfl) (fun h => by cases h) rfl
def ty166 : TyI := { und := (.struct #[⟨"Size_", 12, 0, false, "", "", 0⟩, ⟨"PtrBytes", 12, 1, false, "", "", 8⟩, ⟨"Hash", 161, 2, false, "", "", 16⟩, ⟨"TFlag", 162, 3, false, "", "", 20⟩, ⟨"Align_", 5, 4, false, "", "", 21⟩, ⟨"FieldAlign_", 5, 5, false, "", "", 22⟩, ⟨"Kind_", 92, 6, false, "", "", 23⟩, ⟨"Equal", 163, 7, false, "", "", 24⟩, ⟨"GCData", 151, 8, false, "", "", 32⟩, ⟨"Str", 164, 9, false, "", "", 40⟩, ⟨"PtrToThis", 165, 10, false, "", "", 44⟩]), size := 11, bytes := 48, zero := (.agg [(.int .u64 0), (.int .u64 0), (.int .u32 0), (.int .u8 0), (.int .u8 0), (.int .u8 0), (.int .u8 0), .nilf, .nilp, (.int .i32 0), (.int .i32 0)]), eqok := false, comp := false, methods := [] }
theorem tyOk166 : TyOk Tryd.prog 166 ty166 := TyOk.mk2 (z := (.agg #[(.int .u64 0), (.int .u64 0), (.int .u32 0), (.int .u8 0), (.int .u8 0), (.int .u8 0), (.int .u8 0), .nilFunc, (.pointer none), (.int .i32 0), (.int .i32 0)])) (ms := #[]) (by kernel_rfl) (by kernel_rfl) (by rfl) (by rfl) (fun h => by cases h) rfl
def ty167 : TyI := { und := (.struct #[⟨"Size_", 12, 0, false, "", "", 0⟩, ⟨"PtrBytes", 12, 1, false, "", "", 8⟩, ⟨"Hash", 161, 2, false, "", "", 16⟩, ⟨"TFlag", 162, 3, false, "", "", 20⟩, ⟨"Align_", 5, 4, false, "", "", 21⟩, ⟨"FieldAlign_", 5, 5, false, "", "", 22⟩, ⟨"Kind_", 92, 6, false, "", "", 23⟩, ⟨"Equal", 163, 7, false, "", "", 24⟩, ⟨"GCData", 151, 8, false, "", "", 32⟩, ⟨"Str", 164, 9, false, "", "", 40⟩, ⟨"PtrToThis", 165, 10, false, "", "", 44⟩]), size := 11, bytes := 48, zero := (.agg [(.int .u64 0), (.int .u64 0), (.int .u32 0), (.int .u8 0), (.int .u8 0), (.int .u8 0), (.int .u8 0), .nilf, .nilp, (.int .i32 0), (.int .i32 0)]), eqok := false, comp := false, methods := [] }
theorem tyOk167 : TyOk Tryd.prog 167 ty167 := TyOk.mk2 (z := (.agg #[(.int .u64 0), (.int .u64 0), (.int .u32 0), (.int .u8 0), (.int .u8 0), (.int .u8 0), (.int .u8 0), .nilFunc, (.pointer none), (.int .i32 0), (.int .i32 0)])) (ms := #[]) (by kernel_rfl) (by kernel_rfl) (by rfl) (by rfl) (fun h => by cases h) rfl
def ty170 : TyI := { und := (.struct #[⟨"Method", 9, 0, false, "", "", 0⟩, ⟨"Kind", 92, 1, false, "", "", 16⟩]), size := 2, bytes := 24, zero := (.agg [(.str []), (.int .u8 0)]), eqok := false, comp := true, methods := [] }
theorem tyOk170 : TyOk Tryd.prog 170 ty170 := TyOk.mk2 (z := (.agg #[(.string ⟨#[]⟩), (.int .u8 0)])) (ms := #[]) (by kernel_rfl) (by kernel_rfl) (by rfl) (by rfl) (fun h => by cases h) rfl
def ty171 : TyI := { und := (.struct #[⟨"Method", 9, 0, false, "", "", 0⟩, ⟨"Kind", 92, 1, false, "", "", 16⟩]), size := 2, bytes := 24, zero := (.agg [(.str []), (.int .u8 0)]), eqok := false, comp := true, methods := [] }
theorem tyOk171 : TyOk Tryd.prog 171 ty171 := TyOk.mk2 (z := (.agg #[(.string ⟨#[]⟩), (.int .u8 0)])) (ms := #[]) (by kernel_rfl) (by kernel_rfl) (by rfl) (by rfl) (fun h => by cases h) rfl
def ty172 : TyI := { und := (.pointer 175), size := 1, bytes := 8, zero := .nilp, eqok := false, comp := true, methods := [⟨"ExportedMethods", 173, #[], some (119, true)⟩] }
theorem tyOk172 : TyOk Tryd.prog 172 ty172 := TyOk.mk2 (z := (.pointer none)) (ms := #[⟨"ExportedMethods", 173, #[], some (119, true)⟩]) (by kernel_rfl) (by kernel_rfl) (by rfl) (by rfl) (fun h => by cases h) rfl
def ty174 : TyI := { und := (.struct #[⟨"PkgPath", 164, 0, false, "", "", 0⟩, ⟨"Mcount", 22, 1, false, "", "", 4⟩, ⟨"Xcount", 22, 2, false, "", "", 6⟩, ⟨"Moff", 161, 3, false, "", "", 8⟩, ⟨"_", 161, 4, false, "", "internal/abi", 12⟩]), size := 5, bytes := 16, zero := (.agg [(.int .i32 0), (.int .u16 0), (.int .u16 0), (.int .u32 0), (.int .u32 0)]), eqok := false, comp := true, methods := [] }
theorem tyOk174 : TyOk Tryd.prog 174 ty174 := TyOk.mk2 (z := (.agg #[(.int .i32 0), (.int .u16 0), (.int .u16 0), (.int .u32 0), (.int .u32 0)])) (ms := #[]) (by kernel_rfl) (by kernel_rfl) (by rfl) (by rfl) (fun h => by cases h) rfl
def ty175 : TyI := { und := (.struct #[⟨"PkgPath", 164, 0, false, "", "", 0⟩, ⟨"Mcount", 22, 1, false, "", "", 4⟩, ⟨"Xcount", 22, 2, false, "", "", 6⟩, ⟨"Moff", 161, 3, false, "", "", 8⟩, ⟨"_", 161, 4, false, "", "internal/abi", 12⟩]), size := 5, bytes := 16, zero := (.agg [(.int .i32 0), (.int .u16 0), (.int .u16 0), (.int .u32 0), (.int .u32 0)]), eqok := false, comp := true, methods := [] }
theorem tyOk175 : TyOk Tryd.prog 175 ty175 := TyOk.mk2 (z := (.agg #[(.int .i32 0), (.int .u16 0), (.int .u16 0), (.int .u32 0), (.int .u32 0)])) (ms := #[]) (by kernel_rfl) (by kernel_rfl) (by rfl) (by rfl) (fun h => by cases h) rfl
def ty176 : TyI := { und := (.slice 179), size := 1, bytes := 24, zero := .nils, eqok := false, comp := false, methods := [] }
theorem tyOk176 : TyOk Tryd.prog 176 ty176 := TyOk.mk2 (z := (.slice none 0 0)) (ms := #[]) (by kernel_rfl) (by kernel_rfl) (by rfl) (by rfl) (fun h => by cases h) rfl
def ty177 : TyI := { und := (.int .i32), size := 1, bytes := 4, zero := (.int .i32 0), eqok := false, comp := true, methods := [] }
theorem tyOk177 : TyOk Tryd.prog 177 ty177 := TyOk.mk2 (z := (.int .i32 0)) (ms := #[]) (by kernel_rfl) (by kernel_rfl) (by rfl) (by rfl) (fun h => by cases h) rfl
def ty178 : TyI := { und := (.struct #[⟨"Name", 164, 0, false, "", "", 0⟩, ⟨"Mtyp", 165, 1, false, "", "", 4⟩, ⟨"Ifn", 177, 2, false, "", "", 8⟩, ⟨"Tfn", 177, 3, false, "", "", 12⟩]), size := 4, bytes := 16, zero := (.agg [(.int .i32 0), (.int .i32 0), (.int .i32 0), (.int .i32 0)]), eqok := false, comp := true, methods := [] }
theorem tyOk178 : TyOk Tryd.prog 178 ty178 := TyOk.mk2 (z := (.agg #[(.int .i32 0), (.int .i32 0), (.int .i32 0), (.int .i32 0)])) (ms := #[]) (by kernel_rfl) (by kernel_rfl) (by rfl) (by rfl) (fun h => by cases h) rfl
def ty179 : TyI := { und := (.struct #[⟨"Name", 164, 0, false, "", "", 0⟩, ⟨"Mtyp", 165, 1, false, "", "", 4⟩, ⟨"Ifn", 177, 2, false, "", "", 8⟩, ⟨"Tfn", 177, 3, false, "", "", 12⟩]), size := 4, bytes := 16, zero := (.agg [(.int .i32 0), (.int .i32 0), (.int .i32 0), (.int .i32 0)]), eqok := false, comp := true, methods := [] }
theorem tyOk179 : TyOk Tryd.prog 179 ty179 := TyOk.mk2 (z := (.agg #[(.int .i32 0), (.int .i32 0), (.int .i32 0), (.int .i32 0)])) (ms := #[]) (by kernel_rfl) (by kernel_rfl) (by rfl) (by rfl) (fun h => by cases h) rfl
def ty180 : TyI := { und := (.pointer 52), size := 1, bytes := 8, zero := .nilp, eqok := false, comp := true, methods := [] }
theorem tyOk180 : TyOk Tryd.prog 180 ty180 := TyOk.mk2 (z := (.pointer none)) (ms := #[]) (by kernel_rfl) (by kernel_rfl) (by rfl) (by rfl) (fun h => by cases h) rfl
def tyOf : TypeId → Option TyI
  | 2 => some ty2
  | 3 => some ty3
  | 4 => some ty4
  | 5 => some ty5
  | 6 => some ty6
  | 7 => some ty7
  | 8 => some ty8
  | 9 => some ty9
  | 10 => some ty10
  | 11 => some ty11
  | 12 => some ty12
  | 13 => some ty13
  | 14 => some ty14
  | 15 => some ty15
  | 16 => some ty16
  | 17 => some ty17
  | 18 => some ty18
  | 19 => some ty19
  | 20 => some ty20
  | 21 => some ty21
  | 22 => some ty22
  | 24 => some ty24
  | 25 => some ty25
  | 26 => some ty26
  | 27 => some ty27
  | 28 => some ty28
  | 29 => some ty29
  | 30 => some ty30
  | 31 => some ty31
  | 32 => some ty32
  | 42 => some ty42
  | 43 => some ty43
  | 44 => some ty44
  | 51 => some ty51
  | 52 => some ty52
  | 56 => some ty56
  | 65 => some ty65
  | 66 => some ty66
  | 68 => some ty68
  | 69 => some ty69
  | 80 => some ty80
  | 81 => some ty81
  | 82 => some ty82
  | 84 => some ty84
  | 85 => some ty85
  | 86 => some ty86
  | 87 => some ty87
  | 89 => some ty89
  | 90 => some ty90
  | 92 => some ty92
  | 102 => some ty102
  | 103 => some ty103
  | 105 => some ty105
  | 106 => some ty106
  | 107 => some ty107
  | 118 => some ty118
  | 119 => some ty119
  | 120 => some ty120
  | 124 => some ty124
  | 127 => some ty127
  | 129 => some ty129
  | 130 => some ty130
  | 141 => some ty141
  | 144 => some ty144
  | 145 => some ty145
  | 146 => some ty146
  | 151 => some ty151
  | 154 => some ty154
  | 155 => some ty155
  | 156 => some ty156
  | 157 => some ty157
  | 158 => some ty158
  | 161 => some ty161
  | 162 => some ty162
  | 164 => some ty164
  | 165 => some ty165
  | 166 => some ty166
  | 167 => some ty167
  | 170 => some ty170
  | 171 => some ty171
  | 172 => some ty172
  | 174 => some ty174
  | 175 => some ty175
  | 176 => some ty176
  | 177 => some ty177
  | 178 => some ty178
  | 179 => some ty179
  | 180 => some ty180
  | _ => none
def ctx : Ctx := ⟨tyOf, fun _ => false, [(0, .iface 119 (.agg #[.pointer (some ⟨2, 52, none⟩)]))]⟩
theorem ctxOk : CtxTy Tryd.prog ctx := ⟨by
  intro t ti h
  unfold ctx tyOf at h
  simp only at h
  split at h <;> first | (injection h with h; subst h; first | exact tyOk2 | exact tyOk3 | exact tyOk4 | exact tyOk5 | exact tyOk6 | exact tyOk7 | exact tyOk8 | exact tyOk9 | exact tyOk10 | exact tyOk11 | exact tyOk12 | exact tyOk13 | exact tyOk14 | exact tyOk15 | exact tyOk16 | exact tyOk17 | exact tyOk18 | exact tyOk19 | exact tyOk20 | exact tyOk21 | exact tyOk22 | exact tyOk24 | exact tyOk25 | exact tyOk26 | exact tyOk27 | exact tyOk28 | exact tyOk29 | exact tyOk30 | exact tyOk31 | exact tyOk32 | exact tyOk42 | exact tyOk43 | exact tyOk44 | exact tyOk51 | exact tyOk52 | exact tyOk56 | exact tyOk65 | exact tyOk66 | exact tyOk68 | exact tyOk69 | exact tyOk80 | exact tyOk81 | exact tyOk82 | exact tyOk84 | exact tyOk85 | exact tyOk86 | exact tyOk87 | exact tyOk89 | exact tyOk90 | exact tyOk92 | exact tyOk102 | exact tyOk103 | exact tyOk105 | exact tyOk106 | exact tyOk107 | exact tyOk118 | exact tyOk119 | exact tyOk120 | exact tyOk124 | exact tyOk127 | exact tyOk129 | exact tyOk130 | exact tyOk141 | exact tyOk144 | exact tyOk145 | exact tyOk146 | exact tyOk151 | exact tyOk154 | exact tyOk155 | exact tyOk156 | exact tyOk157 | exact tyOk158 | exact tyOk161 | exact tyOk162 | exact tyOk164 | exact tyOk165 | exact tyOk166 | exact tyOk167 | exact tyOk170 | exact tyOk171 | exact tyOk172 | exact tyOk174 | exact tyOk175 | exact tyOk176 | exact tyOk177 | exact tyOk178 | exact tyOk179 | exact tyOk180) | cases h⟩
end Go.Proofs.YtbinlabnilidiaaDoor.M
