/- Part of the proof: the runs of functions on the abstract machine. -/
import Derived.Test.YtbinlabnilidiaaDoorPamM4
import Derived.Test.YtbinlabnilidiaaDoorFns
namespace Go.Proofs.YtbinlabnilidiaaDoor.M
open Go Go.Pam Go.RowKit Go.WideShapes
set_option maxRecDepth 4000
set_option linter.unusedVariables false
set_option linter.unusedSimpArgs false

def env : Env := ⟨ctx, fnOf, fun f => if f = 19 then some (asNumH 32 80 56) else if f = 76 then some joinH else none⟩
structure Api_Filter where
 Kind : Int
 Attr : Str
 Value : Str
 Subs : Option (List Str)
 Kids : Option (List Api_Filter)
mutual
def e_Api_Filter : Api_Filter → PV
 | ⟨x0, x1, x2, x3, x4⟩ => .agg [(.int .i64 x0), (.str x1), (.str x2), (encSl eS x3), e_Api_FilterO x4]
def e_Api_FilterO : Sl Api_Filter → PV
 | none => .nils
 | some l => .lst (e_Api_FilterL l) .none
def e_Api_FilterL : List Api_Filter → List PV
 | [] => []
 | a :: l => e_Api_Filter a :: e_Api_FilterL l
end
theorem e_Api_FilterL_eq : ∀ l, e_Api_FilterL l = l.map e_Api_Filter
 | [] => rfl
 | a :: l => by simp [e_Api_FilterL, e_Api_FilterL_eq l]
theorem e_Api_FilterO_eq (x : Sl Api_Filter) : e_Api_FilterO x = encSl e_Api_Filter x := by cases x <;> simp [e_Api_FilterO, encSl, e_Api_FilterL_eq]
mutual
theorem clean_Api_Filter : ∀ x : Api_Filter, (e_Api_Filter x).clean = true
 | ⟨x0, x1, x2, x3, x4⟩ => by simp [e_Api_Filter, PV.clean, cleanL, clean_Api_FilterO, clean_encSl clean_eS]
theorem clean_Api_FilterO : ∀ x : Sl Api_Filter, (e_Api_FilterO x).clean = true
 | none => rfl
 | some l => by simp [e_Api_FilterO, PV.clean, clean_Api_FilterL l]
theorem clean_Api_FilterL : ∀ x : List Api_Filter, cleanL (e_Api_FilterL x) = true
 | [] => rfl
 | a :: l => by simp [e_Api_FilterL, cleanL, clean_Api_Filter a, clean_Api_FilterL l]
end
theorem e_Api_Filter_eq (x : Api_Filter) : e_Api_Filter x = .agg [(.int .i64 x.Kind), (.str x.Attr), (.str x.Value), (encSl eS x.Subs), (encSl e_Api_Filter x.Kids)] := by cases x; simp [e_Api_Filter, e_Api_FilterO_eq]
abbrev c_Api_Filter (x : Api_Filter) : List PV := [(.int .i64 x.Kind), (.str x.Attr), (.str x.Value), (encSl eS x.Subs), (encSl e_Api_Filter x.Kids)]
theorem e_Api_Filter_cells (x : Api_Filter) : (e_Api_Filter x).cells = [(.int .i64 x.Kind), (.str x.Attr), (.str x.Value), (encSl eS x.Subs), (encSl e_Api_Filter x.Kids)] := by rw [e_Api_Filter_eq]; rfl
theorem e_Api_Filter_one (x : Api_Filter) : (e_Api_Filter x).storable = true ∧ (e_Api_Filter x).cells.length = 5 ∧ (e_Api_Filter x).strip = e_Api_Filter x := by rw [e_Api_Filter_eq]; exact ⟨rfl, rfl, by simp only [st_int, st_bool, st_str, st_nils, st_lst, st_agg, st_tup, st_fn, st1_int, st1_bool, st1_str, st1_nils, st1_lst, st2_int, st2_bool, st2_str, st2_nils, st2_lst, st2_agg, List.map_cons, List.map_nil, tupled, strip_enc, strip1_enc, strip2_enc]⟩
structure Api_Mod where
 Kind : Int
 Attr : Str
 Values : Option (List Str)
def e_Api_Mod (x : Api_Mod) : PV := .agg [(.int .i64 x.Kind), (.str x.Attr), (encSl eS x.Values)]
theorem clean_Api_Mod (x : Api_Mod) : (e_Api_Mod x).clean = true := by simp [e_Api_Mod, PV.clean, cleanL, clean_encSl clean_eS]
abbrev c_Api_Mod (x : Api_Mod) : List PV := [(.int .i64 x.Kind), (.str x.Attr), (encSl eS x.Values)]
theorem e_Api_Mod_cells (x : Api_Mod) : (e_Api_Mod x).cells = [(.int .i64 x.Kind), (.str x.Attr), (encSl eS x.Values)] := rfl
theorem e_Api_Mod_one (x : Api_Mod) : (e_Api_Mod x).storable = true ∧ (e_Api_Mod x).cells.length = 3 ∧ (e_Api_Mod x).strip = e_Api_Mod x := ⟨rfl, rfl, by simp only [e_Api_Mod, st_int, st_bool, st_str, st_nils, st_lst, st_agg, st_tup, st_fn, st1_int, st1_bool, st1_str, st1_nils, st1_lst, st2_int, st2_bool, st2_str, st2_nils, st2_lst, st2_agg, List.map_cons, List.map_nil, tupled, strip_enc, strip1_enc, strip2_enc]⟩
structure Api_Msg where
 ID : Int
 Op : Int
 Of : Int
 DN : Str
 Version : Int
 Pass : Str
 Scope : Int
 Size : Int
 Filter : Api_Filter
 Wants : Option (List Str)
 Mods : Option (List Api_Mod)
 RDN : Str
 DelOld : Bool
 HasSup : Bool
 Sup : Str
 Attr : Str
 Value : Str
 Code : Int
 Matched : Str
def e_Api_Msg (x : Api_Msg) : PV := .agg [(.int .i64 x.ID), (.int .i64 x.Op), (.int .i64 x.Of), (.str x.DN), (.int .i64 x.Version), (.str x.Pass), (.int .i64 x.Scope), (.int .i64 x.Size), (.int .i64 x.Filter.Kind), (.str x.Filter.Attr), (.str x.Filter.Value), (encSl eS x.Filter.Subs), (encSl e_Api_Filter x.Filter.Kids), (encSl eS x.Wants), (encSl e_Api_Mod x.Mods), (.str x.RDN), (.bool x.DelOld), (.bool x.HasSup), (.str x.Sup), (.str x.Attr), (.str x.Value), (.int .i64 x.Code), (.str x.Matched)]
abbrev c_Api_Msg (x : Api_Msg) : List PV := [(.int .i64 x.ID), (.int .i64 x.Op), (.int .i64 x.Of), (.str x.DN), (.int .i64 x.Version), (.str x.Pass), (.int .i64 x.Scope), (.int .i64 x.Size), (.int .i64 x.Filter.Kind), (.str x.Filter.Attr), (.str x.Filter.Value), (encSl eS x.Filter.Subs), (encSl e_Api_Filter x.Filter.Kids), (encSl eS x.Wants), (encSl e_Api_Mod x.Mods), (.str x.RDN), (.bool x.DelOld), (.bool x.HasSup), (.str x.Sup), (.str x.Attr), (.str x.Value), (.int .i64 x.Code), (.str x.Matched)]
structure Api_Element where
 Tag : Int
 Body : Str
 Kids : Option (List Api_Element)
mutual
def e_Api_Element : Api_Element → PV
 | ⟨x0, x1, x2⟩ => .agg [(.int .u8 x0), (.str x1), e_Api_ElementO x2]
def e_Api_ElementO : Sl Api_Element → PV
 | none => .nils
 | some l => .lst (e_Api_ElementL l) .none
def e_Api_ElementL : List Api_Element → List PV
 | [] => []
 | a :: l => e_Api_Element a :: e_Api_ElementL l
end
theorem e_Api_ElementL_eq : ∀ l, e_Api_ElementL l = l.map e_Api_Element
 | [] => rfl
 | a :: l => by simp [e_Api_ElementL, e_Api_ElementL_eq l]
theorem e_Api_ElementO_eq (x : Sl Api_Element) : e_Api_ElementO x = encSl e_Api_Element x := by cases x <;> simp [e_Api_ElementO, encSl, e_Api_ElementL_eq]
mutual
theorem clean_Api_Element : ∀ x : Api_Element, (e_Api_Element x).clean = true
 | ⟨x0, x1, x2⟩ => by simp [e_Api_Element, PV.clean, cleanL, clean_Api_ElementO]
theorem clean_Api_ElementO : ∀ x : Sl Api_Element, (e_Api_ElementO x).clean = true
 | none => rfl
 | some l => by simp [e_Api_ElementO, PV.clean, clean_Api_ElementL l]
theorem clean_Api_ElementL : ∀ x : List Api_Element, cleanL (e_Api_ElementL x) = true
 | [] => rfl
 | a :: l => by simp [e_Api_ElementL, cleanL, clean_Api_Element a, clean_Api_ElementL l]
end
theorem e_Api_Element_eq (x : Api_Element) : e_Api_Element x = .agg [(.int .u8 x.Tag), (.str x.Body), (encSl e_Api_Element x.Kids)] := by cases x; simp [e_Api_Element, e_Api_ElementO_eq]
abbrev c_Api_Element (x : Api_Element) : List PV := [(.int .u8 x.Tag), (.str x.Body), (encSl e_Api_Element x.Kids)]
theorem e_Api_Element_cells (x : Api_Element) : (e_Api_Element x).cells = [(.int .u8 x.Tag), (.str x.Body), (encSl e_Api_Element x.Kids)] := by rw [e_Api_Element_eq]; rfl
theorem e_Api_Element_one (x : Api_Element) : (e_Api_Element x).storable = true ∧ (e_Api_Element x).cells.length = 3 ∧ (e_Api_Element x).strip = e_Api_Element x := by rw [e_Api_Element_eq]; exact ⟨rfl, rfl, by simp only [st_int, st_bool, st_str, st_nils, st_lst, st_agg, st_tup, st_fn, st1_int, st1_bool, st1_str, st1_nils, st1_lst, st2_int, st2_bool, st2_str, st2_nils, st2_lst, st2_agg, List.map_cons, List.map_nil, tupled, strip_enc, strip1_enc, strip2_enc]⟩
structure Ber_reader where
 s_ : Str
 at_ : Int
 deriving DecidableEq
abbrev c_Ber_reader (x : Ber_reader) : List PV := [(.str x.s_), (.int .i64 x.at_)]
abbrev z0_ : List PV := [(.int .i64 0), (.int .i64 0), (.int .i64 0), (.str []), (.int .i64 0), (.str []), (.int .i64 0), (.int .i64 0), (.int .i64 0), (.str []), (.str []), .nils, .nils, .nils, .nils, (.str []), (.bool false), (.bool false), (.str []), (.str []), (.str []), (.int .i64 0), (.str [])]
abbrev z1_ : List PV := [(.int .u8 0), (.int .u8 96), (.int .u8 66), (.int .u8 99), (.int .u8 102), (.int .u8 104), (.int .u8 74), (.int .u8 108), (.int .u8 110), (.int .u8 0), (.int .u8 100)]
abbrev z10_ : List PV := [(.int .u8 0), (.int .u8 160), (.int .u8 161), (.int .u8 162), (.int .u8 163), (.int .u8 165), (.int .u8 166), (.int .u8 135), (.int .u8 164)]
abbrev z12_ : List PV := [(.int .u8 0), (.int .u8 97), (.int .u8 0), (.int .u8 101), (.int .u8 103), (.int .u8 105), (.int .u8 107), (.int .u8 109), (.int .u8 111)]
abbrev z25_ : List PV := [(.int .i64 1), (.int .i64 2), (.int .i64 3), (.int .i64 4), (.int .i64 8), (.int .i64 5), (.int .i64 6), (.int .i64 0)]
def Q (f : FuncId) (bs : List PV) (v : PV) : Prop := Qe env f bs v
theorem sv {f : FuncId} {vs ws : List PV} {v : PV} (h : Q f ws v) (ha : vs.map PV.strip = ws := by simp only [List.map_cons, List.map_nil, e_Api_Element_eq, e_Api_Filter_eq, e_Api_Mod, e_Api_Msg, encSl_none, st1_bool, st1_int, st1_nils, st1_str, st_agg, st_bool, st_fn, st_int, st_nils, st_str, strip1_enc, strip_enc, tupled] <;> rfl) : ∀ S, evw env f vs S = some (v, S, false) := h ha
theorem kc {σ : Nat → PV} {i : Nat} {v : PV} {l : List (Nat × PV)} (h : σ i = v) (hl : Known l σ) : Known ((i, v) :: l) σ := known_cons h hl
theorem WS {env : Env} {fr : Fr} {op : Op} {d : Option Nat} {wr : Bool} {rest : List POp} {σ S e S'} {v : PV} {e' : Bool} {K : KS} (hd : dstOk fr.ntmps d = true)
  (hs : stF env fr σ S ⟨d, op, none, wr⟩ = some (v, S', e')) (h : WO env fr rest (upd σ d v) S' (e || e') K) : WO env fr (⟨d, op, none, wr⟩ :: rest) σ S e K := WO.step hd hs h
end Go.Proofs.YtbinlabnilidiaaDoor.M
