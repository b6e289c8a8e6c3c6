/- The types, as the abstract machine has them (made by a program of mine, gen.py). -/
import Derived.Test.YtbinlabnilidiaaGreatDoorPamM2
import Derived.Test.YtbinlabnilidiaaGreatDoorProg
namespace Go.Proofs.YtbinlabnilidiaaGreatDoor.M
set_option linter.unusedVariables false
set_option linter.unusedSimpArgs false
open Go Go.Pam
theorem tk {P : Program} {t : TypeId} {und : TypeDesc} {size bytes : Nat} {zp : PV} {comp : Bool} {mets : List Method} (z : Value) (ms : Array Method) (h1 : P.underlying t = some und := by kernel_rfl) (h2 : (P.info? t).map (fun i => (i.size, i.bytes, i.zero, i.comparable, i.methods)) = some (size, bytes, some z, comp, ms) := by kernel_rfl) (h3 : Xmf z = some zp := by rfl) (h4 : z.cells.size = zp.cells.length := by rfl) (h6 : ms.toList = mets := by rfl) : Xc1 P t ⟨und, size, bytes, zp, false, comp, mets⟩ := Xc1.mk2 h1 h2 h3 h4 (fun h => by cases h) h6
def ty2 : TyI := ⟨(.int .i64), 1, 8, (.int .i64 0), false, true, []⟩
theorem Xub : Xc1 Tryz.prog 2 ty2 := tk (.int .i64 0) #[]
def ty3 : TyI := ⟨(.int .i64), 1, 8, (.int .i64 0), false, true, []⟩
theorem Xuc : Xc1 Tryz.prog 3 ty3 := tk (.int .i64 0) #[]
def ty4 : TyI := ⟨.bool, 1, 1, (.bool false), false, true, []⟩
theorem Xud : Xc1 Tryz.prog 4 ty4 := tk (.bool false) #[]
def ty5 : TyI := ⟨(.int .u8), 1, 1, (.int .u8 0), false, true, []⟩
theorem Xue : Xc1 Tryz.prog 5 ty5 := tk (.int .u8 0) #[]
def ty6 : TyI := ⟨(.int .u8), 1, 1, (.int .u8 0), false, true, []⟩
theorem Xuf : Xc1 Tryz.prog 6 ty6 := tk (.int .u8 0) #[]
def ty9 : TyI := ⟨.string, 1, 16, (.str []), false, true, []⟩
theorem Xug : Xc1 Tryz.prog 9 ty9 := tk (.string ⟨#[]⟩) #[]
def ty12 : TyI := ⟨(.int .u64), 1, 8, (.int .u64 0), false, true, []⟩
theorem XoV : Xc1 Tryz.prog 12 ty12 := tk (.int .u64 0) #[]
def ty20 : TyI := ⟨(.interface #[]), 1, 16, .nili, false, true, []⟩
theorem XoW : Xc1 Tryz.prog 20 ty20 := tk .nilIface #[]
def ty21 : TyI := ⟨(.int .i32), 1, 4, (.int .i32 0), false, true, []⟩
theorem XoX : Xc1 Tryz.prog 21 ty21 := tk (.int .i32 0) #[]
def ty22 : TyI := ⟨(.slice 9), 1, 24, .nils, false, false, []⟩
theorem XoY : Xc1 Tryz.prog 22 ty22 := tk (.slice none 0 0) #[]
def ty23 : TyI := ⟨(.slice 25), 1, 24, .nils, false, false, []⟩
theorem XoZ : Xc1 Tryz.prog 23 ty23 := tk (.slice none 0 0) #[]
def ty24 : TyI := ⟨(.struct #[⟨"Kind", 3, 0, false, "", "", 0⟩, ⟨"Attr", 9, 1, false, "", "", 8⟩, ⟨"Value", 9, 2, false, "", "", 24⟩, ⟨"Subs", 22, 3, false, "", "", 40⟩, ⟨"Kids", 23, 4, false, "", "", 64⟩]), 5, 88, (.agg [(.int .i64 0), (.str []), (.str []), .nils, .nils]), false, false, []⟩
theorem Xpa : Xc1 Tryz.prog 24 ty24 := tk (.agg #[(.int .i64 0), (.string ⟨#[]⟩), (.string ⟨#[]⟩), (.slice none 0 0), (.slice none 0 0)]) #[]
def Xlo : TyI := ⟨(.struct #[⟨"Kind", 3, 0, false, "", "", 0⟩, ⟨"Attr", 9, 1, false, "", "", 8⟩, ⟨"Value", 9, 2, false, "", "", 24⟩, ⟨"Subs", 22, 3, false, "", "", 40⟩, ⟨"Kids", 23, 4, false, "", "", 64⟩]), 5, 88, (.agg [(.int .i64 0), (.str []), (.str []), .nils, .nils]), false, false, []⟩
theorem Xpb : Xc1 Tryz.prog 25 Xlo := tk (.agg #[(.int .i64 0), (.string ⟨#[]⟩), (.string ⟨#[]⟩), (.slice none 0 0), (.slice none 0 0)]) #[]
def ty26 : TyI := ⟨(.slice 45), 1, 24, .nils, false, false, []⟩
theorem Xpc : Xc1 Tryz.prog 26 ty26 := tk (.slice none 0 0) #[]
def ty27 : TyI := ⟨(.struct #[⟨"ID", 3, 0, false, "", "", 0⟩, ⟨"Op", 3, 1, false, "", "", 8⟩, ⟨"Of", 3, 2, false, "", "", 16⟩, ⟨"DN", 9, 3, false, "", "", 24⟩, ⟨"Version", 3, 4, false, "", "", 40⟩, ⟨"Pass", 9, 5, false, "", "", 48⟩, ⟨"Scope", 3, 6, false, "", "", 64⟩, ⟨"Size", 3, 7, false, "", "", 72⟩, ⟨"Filter", 25, 8, false, "", "", 80⟩, ⟨"Wants", 22, 13, false, "", "", 168⟩, ⟨"Mods", 26, 14, false, "", "", 192⟩, ⟨"RDN", 9, 15, false, "", "", 216⟩, ⟨"DelOld", 4, 16, false, "", "", 232⟩, ⟨"HasSup", 4, 17, false, "", "", 233⟩, ⟨"Sup", 9, 18, false, "", "", 240⟩, ⟨"Attr", 9, 19, false, "", "", 256⟩, ⟨"Value", 9, 20, false, "", "", 272⟩, ⟨"Code", 3, 21, false, "", "", 288⟩, ⟨"Matched", 9, 22, false, "", "", 296⟩]), 23, 312, (.agg [(.int .i64 0), (.int .i64 0), (.int .i64 0), (.str []), (.int .i64 0), (.str []), (.int .i64 0), (.int .i64 0), (.int .i64 0), (.str []), (.str []), .nils, .nils, .nils, .nils, (.str []), (.bool false), (.bool false), (.str []), (.str []), (.str []), (.int .i64 0), (.str [])]), false, false, []⟩
theorem Xpd : Xc1 Tryz.prog 27 ty27 := tk (.agg #[(.int .i64 0), (.int .i64 0), (.int .i64 0), (.string ⟨#[]⟩), (.int .i64 0), (.string ⟨#[]⟩), (.int .i64 0), (.int .i64 0), (.int .i64 0), (.string ⟨#[]⟩), (.string ⟨#[]⟩), (.slice none 0 0), (.slice none 0 0), (.slice none 0 0), (.slice none 0 0), (.string ⟨#[]⟩), (.bool false), (.bool false), (.string ⟨#[]⟩), (.string ⟨#[]⟩), (.string ⟨#[]⟩), (.int .i64 0), (.string ⟨#[]⟩)]) #[]
def XgD : TyI := ⟨(.struct #[⟨"ID", 3, 0, false, "", "", 0⟩, ⟨"Op", 3, 1, false, "", "", 8⟩, ⟨"Of", 3, 2, false, "", "", 16⟩, ⟨"DN", 9, 3, false, "", "", 24⟩, ⟨"Version", 3, 4, false, "", "", 40⟩, ⟨"Pass", 9, 5, false, "", "", 48⟩, ⟨"Scope", 3, 6, false, "", "", 64⟩, ⟨"Size", 3, 7, false, "", "", 72⟩, ⟨"Filter", 25, 8, false, "", "", 80⟩, ⟨"Wants", 22, 13, false, "", "", 168⟩, ⟨"Mods", 26, 14, false, "", "", 192⟩, ⟨"RDN", 9, 15, false, "", "", 216⟩, ⟨"DelOld", 4, 16, false, "", "", 232⟩, ⟨"HasSup", 4, 17, false, "", "", 233⟩, ⟨"Sup", 9, 18, false, "", "", 240⟩, ⟨"Attr", 9, 19, false, "", "", 256⟩, ⟨"Value", 9, 20, false, "", "", 272⟩, ⟨"Code", 3, 21, false, "", "", 288⟩, ⟨"Matched", 9, 22, false, "", "", 296⟩]), 23, 312, (.agg [(.int .i64 0), (.int .i64 0), (.int .i64 0), (.str []), (.int .i64 0), (.str []), (.int .i64 0), (.int .i64 0), (.int .i64 0), (.str []), (.str []), .nils, .nils, .nils, .nils, (.str []), (.bool false), (.bool false), (.str []), (.str []), (.str []), (.int .i64 0), (.str [])]), false, false, []⟩
theorem Xpe : Xc1 Tryz.prog 28 XgD := tk (.agg #[(.int .i64 0), (.int .i64 0), (.int .i64 0), (.string ⟨#[]⟩), (.int .i64 0), (.string ⟨#[]⟩), (.int .i64 0), (.int .i64 0), (.int .i64 0), (.string ⟨#[]⟩), (.string ⟨#[]⟩), (.slice none 0 0), (.slice none 0 0), (.slice none 0 0), (.slice none 0 0), (.string ⟨#[]⟩), (.bool false), (.bool false), (.string ⟨#[]⟩), (.string ⟨#[]⟩), (.string ⟨#[]⟩), (.int .i64 0), (.string ⟨#[]⟩)]) #[]
def Xtx : TyI := ⟨(.int .i64), 1, 8, (.int .i64 0), false, true, [⟨"Error", 163, #[], some (135, false)⟩]⟩
theorem Xpf : Xc1 Tryz.prog 31 Xtx := tk (.int .i64 0) #[⟨"Error", 163, #[], some (135, false)⟩]
def ty39 : TyI := ⟨(.int .u16), 1, 2, (.int .u16 0), false, true, []⟩
theorem Xpg : Xc1 Tryz.prog 39 ty39 := tk (.int .u16 0) #[]
def ty40 : TyI := ⟨(.slice 5), 1, 24, .nils, false, false, []⟩
theorem Xph : Xc1 Tryz.prog 40 ty40 := tk (.slice none 0 0) #[]
def ty44 : TyI := ⟨(.struct #[⟨"Kind", 3, 0, false, "", "", 0⟩, ⟨"Attr", 9, 1, false, "", "", 8⟩, ⟨"Values", 22, 2, false, "", "", 24⟩]), 3, 48, (.agg [(.int .i64 0), (.str []), .nils]), false, false, []⟩
theorem Xpi : Xc1 Tryz.prog 44 ty44 := tk (.agg #[(.int .i64 0), (.string ⟨#[]⟩), (.slice none 0 0)]) #[]
def XlD : TyI := ⟨(.struct #[⟨"Kind", 3, 0, false, "", "", 0⟩, ⟨"Attr", 9, 1, false, "", "", 8⟩, ⟨"Values", 22, 2, false, "", "", 24⟩]), 3, 48, (.agg [(.int .i64 0), (.str []), .nils]), false, false, []⟩
theorem Xpj : Xc1 Tryz.prog 45 XlD := tk (.agg #[(.int .i64 0), (.string ⟨#[]⟩), (.slice none 0 0)]) #[]
def ty48 : TyI := ⟨(.slice 50), 1, 24, .nils, false, false, []⟩
theorem Xpk : Xc1 Tryz.prog 48 ty48 := tk (.slice none 0 0) #[]
def ty49 : TyI := ⟨(.struct #[⟨"Tag", 5, 0, false, "", "", 0⟩, ⟨"Body", 9, 1, false, "", "", 8⟩, ⟨"Kids", 48, 2, false, "", "", 24⟩]), 3, 48, (.agg [(.int .u8 0), (.str []), .nils]), false, false, []⟩
theorem Xpl : Xc1 Tryz.prog 49 ty49 := tk (.agg #[(.int .u8 0), (.string ⟨#[]⟩), (.slice none 0 0)]) #[]
def XbA : TyI := ⟨(.struct #[⟨"Tag", 5, 0, false, "", "", 0⟩, ⟨"Body", 9, 1, false, "", "", 8⟩, ⟨"Kids", 48, 2, false, "", "", 24⟩]), 3, 48, (.agg [(.int .u8 0), (.str []), .nils]), false, false, []⟩
theorem Xpm : Xc1 Tryz.prog 50 XbA := tk (.agg #[(.int .u8 0), (.string ⟨#[]⟩), (.slice none 0 0)]) #[]
def ty72 : TyI := ⟨(.interface #[("Error", 163)]), 1, 16, .nili, false, true, []⟩
theorem Xpn : Xc1 Tryz.prog 72 ty72 := tk .nilIface #[]
def ty73 : TyI := ⟨(.interface #[("Error", 163)]), 1, 16, .nili, false, true, []⟩
theorem Xpo : Xc1 Tryz.prog 73 ty73 := tk .nilIface #[]
def ty77 : TyI := ⟨(.pointer 31), 1, 8, .nilp, false, true, [⟨"Error", 163, #[], some (135, false)⟩]⟩
theorem Xpp : Xc1 Tryz.prog 77 ty77 := tk (.pointer none) #[⟨"Error", 163, #[], some (135, false)⟩]
def XoC : TyI := ⟨(.array 9 5), 9, 9, (.agg [(.int .u8 0), (.int .u8 0), (.int .u8 0), (.int .u8 0), (.int .u8 0), (.int .u8 0), (.int .u8 0), (.int .u8 0), (.int .u8 0)]), false, true, []⟩
theorem Xpq : Xc1 Tryz.prog 80 XoC := tk (.agg #[(.int .u8 0), (.int .u8 0), (.int .u8 0), (.int .u8 0), (.int .u8 0), (.int .u8 0), (.int .u8 0), (.int .u8 0), (.int .u8 0)]) #[]
def Xuh : TyI := ⟨(.array 11 5), 11, 11, (.agg [(.int .u8 0), (.int .u8 0), (.int .u8 0), (.int .u8 0), (.int .u8 0), (.int .u8 0), (.int .u8 0), (.int .u8 0), (.int .u8 0), (.int .u8 0), (.int .u8 0)]), false, true, []⟩
theorem Xpr : Xc1 Tryz.prog 81 Xuh := tk (.agg #[(.int .u8 0), (.int .u8 0), (.int .u8 0), (.int .u8 0), (.int .u8 0), (.int .u8 0), (.int .u8 0), (.int .u8 0), (.int .u8 0), (.int .u8 0), (.int .u8 0)]) #[]
def ty96 : TyI := ⟨(.pointer 98), 1, 8, .nilp, false, true, [⟨"Error", 163, #[], some (136, true)⟩, ⟨"Unwrap", 143, #[], some (137, true)⟩]⟩
theorem Xps : Xc1 Tryz.prog 96 ty96 := tk (.pointer none) #[⟨"Error", 163, #[], some (136, true)⟩, ⟨"Unwrap", 143, #[], some (137, true)⟩]
def ty97 : TyI := ⟨(.struct #[⟨"E", 73, 0, false, "", "", 0⟩, ⟨"At", 3, 1, false, "", "", 16⟩]), 2, 24, (.agg [.nili, (.int .i64 0)]), false, true, []⟩
theorem Xpt : Xc1 Tryz.prog 97 ty97 := tk (.agg #[.nilIface, (.int .i64 0)]) #[]
def Xty : TyI := ⟨(.struct #[⟨"E", 73, 0, false, "", "", 0⟩, ⟨"At", 3, 1, false, "", "", 16⟩]), 2, 24, (.agg [.nili, (.int .i64 0)]), false, true, []⟩
theorem Xpu : Xc1 Tryz.prog 98 Xty := tk (.agg #[.nilIface, (.int .i64 0)]) #[]
def Xpv : TyI := ⟨.unsafePointer, 1, 8, .nilp, false, true, []⟩
theorem XmM : Xc1 Tryz.prog 100 Xpv := tk (.pointer none) #[]
def Xpw : TyI := ⟨(.pointer 122), 1, 8, .nilp, false, true, [⟨"prefect/ber.read", 124, #[], some (93, true)⟩]⟩
theorem XmN : Xc1 Tryz.prog 120 Xpw := tk (.pointer none) #[⟨"prefect/ber.read", 124, #[], some (93, true)⟩]
def Xpx : TyI := ⟨(.struct #[⟨"s", 9, 0, false, "", "prefect/ber", 0⟩, ⟨"at", 3, 1, false, "", "prefect/ber", 16⟩]), 2, 24, (.agg [(.str []), (.int .i64 0)]), false, true, []⟩
theorem XmO : Xc1 Tryz.prog 121 Xpx := tk (.agg #[(.string ⟨#[]⟩), (.int .i64 0)]) #[]
def XmP : TyI := ⟨(.struct #[⟨"s", 9, 0, false, "", "prefect/ber", 0⟩, ⟨"at", 3, 1, false, "", "prefect/ber", 16⟩]), 2, 24, (.agg [(.str []), (.int .i64 0)]), true, true, []⟩
theorem XmQ : Xc1 Tryz.prog 122 XmP := Xc1.mk2 (z := (.agg #[(.string ⟨#[]⟩), (.int .i64 0)])) (ms := #[]) (by kernel_rfl) (by kernel_rfl) (by rfl) (by rfl) (fun _ => ⟨by kernel_rfl, by kernel_rfl⟩) rfl
def XlE : TyI := ⟨(.array 8 3), 8, 64, (.agg [(.int .i64 0), (.int .i64 0), (.int .i64 0), (.int .i64 0), (.int .i64 0), (.int .i64 0), (.int .i64 0), (.int .i64 0)]), false, true, []⟩
theorem XmR : Xc1 Tryz.prog 156 XlE := tk (.agg #[(.int .i64 0), (.int .i64 0), (.int .i64 0), (.int .i64 0), (.int .i64 0), (.int .i64 0), (.int .i64 0), (.int .i64 0)]) #[]
def Xpy : TyI := ⟨(.pointer 5), 1, 8, .nilp, false, true, []⟩
theorem XmS : Xc1 Tryz.prog 164 Xpy := tk (.pointer none) #[]
def tyOf : TypeId → Option TyI
  | 2 => some ty2
  | 3 => some ty3
  | 4 => some ty4
  | 5 => some ty5
  | 6 => some ty6
  | 9 => some ty9
  | 12 => some ty12
  | 20 => some ty20
  | 21 => some ty21
  | 22 => some ty22
  | 23 => some ty23
  | 24 => some ty24
  | 25 => some Xlo
  | 26 => some ty26
  | 27 => some ty27
  | 28 => some XgD
  | 31 => some Xtx
  | 39 => some ty39
  | 40 => some ty40
  | 44 => some ty44
  | 45 => some XlD
  | 48 => some ty48
  | 49 => some ty49
  | 50 => some XbA
  | 72 => some ty72
  | 73 => some ty73
  | 77 => some ty77
  | 80 => some XoC
  | 81 => some Xuh
  | 96 => some ty96
  | 97 => some ty97
  | 98 => some Xty
  | 100 => some Xpv
  | 120 => some Xpw
  | 121 => some Xpx
  | 122 => some XmP
  | 156 => some XlE
  | 164 => some Xpy
  | _ => none
def ctx : Ctx := ⟨tyOf, fun _ => false, [(0, .iface 134 (.agg #[.pointer (some ⟨2, 73, none⟩)]))]⟩
theorem Xui : Xbl Tryz.prog ctx := ⟨by
  intro t ti h
  unfold ctx tyOf at h
  simp only at h
  split at h <;> first | (injection h with h; subst h; first | exact Xub | exact Xuc | exact Xud | exact Xue | exact Xuf | exact Xug | exact XoV | exact XoW | exact XoX | exact XoY | exact XoZ | exact Xpa | exact Xpb | exact Xpc | exact Xpd | exact Xpe | exact Xpf | exact Xpg | exact Xph | exact Xpi | exact Xpj | exact Xpk | exact Xpl | exact Xpm | exact Xpn | exact Xpo | exact Xpp | exact Xpq | exact Xpr | exact Xps | exact Xpt | exact Xpu | exact XmM | exact XmN | exact XmO | exact XmQ | exact XmR | exact XmS) | cases h⟩
end Go.Proofs.YtbinlabnilidiaaGreatDoor.M
