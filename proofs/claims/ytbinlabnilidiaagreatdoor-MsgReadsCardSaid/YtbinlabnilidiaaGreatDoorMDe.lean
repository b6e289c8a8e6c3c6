/- Part of the proof: the runs of functions on the abstract machine. -/
import Derived.Test.YtbinlabnilidiaaGreatDoorPamM4
import Derived.Test.YtbinlabnilidiaaGreatDoorFns
namespace Go.Proofs.YtbinlabnilidiaaGreatDoor.M
open Go Go.Pam Go.RowKit Go.WideShapes
set_option maxRecDepth 4000
set_option linter.unusedVariables false
set_option linter.unusedSimpArgs false
def env : Env := ⟨ctx, Xwe, fun f => if f = 46 then some (Xfe 31 96 77) else if f = 107 then some Xkh else none⟩
structure Xae where
 Kind : Int
 Attr : Str
 Value : Str
 Subs : Option (List Str)
 Kids : Option (List Xae)
mutual
def Xan : Xae → PV
 | ⟨x0, x1, x2, x3, x4⟩ => .agg [(.int .i64 x0), (.str x1), (.str x2), (Xar eS x3), Xck x4]
def Xck : Sl Xae → PV
 | none => .nils
 | some l => .lst (XbO l) .none
def XbO : List Xae → List PV
 | [] => []
 | a :: l => Xan a :: XbO l
end
theorem Xdw : ∀ l, XbO l = l.map Xan
 | [] => rfl
 | a :: l => by simp [XbO, Xdw l]
theorem Xfq (x : Sl Xae) : Xck x = Xar Xan x := by cases x <;> simp [Xck, Xar, Xdw]
mutual
theorem Xb4 : ∀ x : Xae, (Xan x).clean = true
 | ⟨x0, x1, x2, x3, x4⟩ => by simp [Xan, PV.clean, XaW, XeS, XaR XdQ]
theorem XeS : ∀ x : Sl Xae, (Xck x).clean = true
 | none => rfl
 | some l => by simp [Xck, PV.clean, Xdf l]
theorem Xdf : ∀ x : List Xae, XaW (XbO x) = true
 | [] => rfl
 | a :: l => by simp [XbO, XaW, Xb4 a, Xdf l]
end
theorem Xbo (x : Xae) : Xan x = .agg [(.int .i64 x.Kind), (.str x.Attr), (.str x.Value), (Xar eS x.Subs), (Xar Xan x.Kids)] := by cases x; simp [Xan, Xfq]
abbrev Xag (x : Xae) : List PV := [(.int .i64 x.Kind), (.str x.Attr), (.str x.Value), (Xar eS x.Subs), (Xar Xan x.Kids)]
theorem XaA (x : Xae) : (Xan x).cells = [(.int .i64 x.Kind), (.str x.Attr), (.str x.Value), (Xar eS x.Subs), (Xar Xan x.Kids)] := by rw [Xbo]; rfl
theorem Xdx (x : Xae) : (Xan x).storable = true ∧ (Xan x).cells.length = 5 ∧ (Xan x).strip = Xan x := by rw [Xbo]; exact ⟨rfl, rfl, by simp only [XaI, Xhq, Xig, Xhr, XaX, Xax, Xa7, Xl4, Xap, XbN, Xaq, Xbp, XdD, Xb8, Xhs, XiR, Xht, XiS, Xb1, List.map_cons, List.map_nil, Xal, XbS, Xai, XeP]⟩
structure Xat where
 Kind : Int
 Attr : Str
 Values : Option (List Str)
def Xao (x : Xat) : PV := .agg [(.int .i64 x.Kind), (.str x.Attr), (Xar eS x.Values)]
theorem XcB (x : Xat) : (Xao x).clean = true := by simp [Xao, PV.clean, XaW, XaR XdQ]
abbrev XbG (x : Xat) : List PV := [(.int .i64 x.Kind), (.str x.Attr), (Xar eS x.Values)]
theorem Xaz (x : Xat) : (Xao x).cells = [(.int .i64 x.Kind), (.str x.Attr), (Xar eS x.Values)] := rfl
theorem Xe4 (x : Xat) : (Xao x).storable = true ∧ (Xao x).cells.length = 3 ∧ (Xao x).strip = Xao x := ⟨rfl, rfl, by simp only [Xao, XaI, Xhq, Xig, Xhr, XaX, Xax, Xa7, Xl4, Xap, XbN, Xaq, Xbp, XdD, Xb8, Xhs, XiR, Xht, XiS, Xb1, List.map_cons, List.map_nil, Xal, XbS, Xai, XeP]⟩
structure Xay where
 ID : Int
 Op : Int
 Of : Int
 DN : Str
 Version : Int
 Pass : Str
 Scope : Int
 Size : Int
 Filter : Xae
 Wants : Option (List Str)
 Mods : Option (List Xat)
 RDN : Str
 DelOld : Bool
 HasSup : Bool
 Sup : Str
 Attr : Str
 Value : Str
 Code : Int
 Matched : Str
def XbH (x : Xay) : PV := .agg [(.int .i64 x.ID), (.int .i64 x.Op), (.int .i64 x.Of), (.str x.DN), (.int .i64 x.Version), (.str x.Pass), (.int .i64 x.Scope), (.int .i64 x.Size), (.int .i64 x.Filter.Kind), (.str x.Filter.Attr), (.str x.Filter.Value), (Xar eS x.Filter.Subs), (Xar Xan x.Filter.Kids), (Xar eS x.Wants), (Xar Xao x.Mods), (.str x.RDN), (.bool x.DelOld), (.bool x.HasSup), (.str x.Sup), (.str x.Attr), (.str x.Value), (.int .i64 x.Code), (.str x.Matched)]
abbrev Xak (x : Xay) : List PV := [(.int .i64 x.ID), (.int .i64 x.Op), (.int .i64 x.Of), (.str x.DN), (.int .i64 x.Version), (.str x.Pass), (.int .i64 x.Scope), (.int .i64 x.Size), (.int .i64 x.Filter.Kind), (.str x.Filter.Attr), (.str x.Filter.Value), (Xar eS x.Filter.Subs), (Xar Xan x.Filter.Kids), (Xar eS x.Wants), (Xar Xao x.Mods), (.str x.RDN), (.bool x.DelOld), (.bool x.HasSup), (.str x.Sup), (.str x.Attr), (.str x.Value), (.int .i64 x.Code), (.str x.Matched)]
theorem XfW (x : Xay) : (XbH x).cells = [(.int .i64 x.ID), (.int .i64 x.Op), (.int .i64 x.Of), (.str x.DN), (.int .i64 x.Version), (.str x.Pass), (.int .i64 x.Scope), (.int .i64 x.Size), (.int .i64 x.Filter.Kind), (.str x.Filter.Attr), (.str x.Filter.Value), (Xar eS x.Filter.Subs), (Xar Xan x.Filter.Kids), (Xar eS x.Wants), (Xar Xao x.Mods), (.str x.RDN), (.bool x.DelOld), (.bool x.HasSup), (.str x.Sup), (.str x.Attr), (.str x.Value), (.int .i64 x.Code), (.str x.Matched)] := rfl
structure Xab where
 Tag : Int
 Body : Str
 Kids : Option (List Xab)
mutual
def Xac : Xab → PV
 | ⟨x0, x1, x2⟩ => .agg [(.int .u8 x0), (.str x1), XbT x2]
def XbT : Sl Xab → PV
 | none => .nils
 | some l => .lst (Xb7 l) .none
def Xb7 : List Xab → List PV
 | [] => []
 | a :: l => Xac a :: Xb7 l
end
theorem Xdg : ∀ l, Xb7 l = l.map Xac
 | [] => rfl
 | a :: l => by simp [Xb7, Xdg l]
theorem XeT (x : Sl Xab) : XbT x = Xar Xac x := by cases x <;> simp [XbT, Xar, Xdg]
mutual
theorem Xdh : ∀ x : Xab, (Xac x).clean = true
 | ⟨x0, x1, x2⟩ => by simp [Xac, PV.clean, XaW, Xe5]
theorem Xe5 : ∀ x : Sl Xab, (XbT x).clean = true
 | none => rfl
 | some l => by simp [XbT, PV.clean, XcS l]
theorem XcS : ∀ x : List Xab, XaW (Xb7 x) = true
 | [] => rfl
 | a :: l => by simp [Xb7, XaW, Xdh a, XcS l]
end
theorem Xad (x : Xab) : Xac x = .agg [(.int .u8 x.Tag), (.str x.Body), (Xar Xac x.Kids)] := by cases x; simp [Xac, XeT]
abbrev Xaa (x : Xab) : List PV := [(.int .u8 x.Tag), (.str x.Body), (Xar Xac x.Kids)]
theorem XaD (x : Xab) : (Xac x).cells = [(.int .u8 x.Tag), (.str x.Body), (Xar Xac x.Kids)] := by rw [Xad]; rfl
theorem Xa4 (x : Xab) : (Xac x).storable = true ∧ (Xac x).cells.length = 3 ∧ (Xac x).strip = Xac x := by rw [Xad]; exact ⟨rfl, rfl, by simp only [XaI, Xhq, Xig, Xhr, XaX, Xax, Xa7, Xl4, Xap, XbN, Xaq, Xbp, XdD, Xb8, Xhs, XiR, Xht, XiS, Xb1, List.map_cons, List.map_nil, Xal, XbS, Xai, XeP]⟩
structure XaG where
 s_ : Str
 at_ : Int
 deriving DecidableEq
abbrev XbI (x : XaG) : List PV := [(.str x.s_), (.int .i64 x.at_)]
abbrev z0_ : List PV := [(.int .i64 0), (.int .i64 0), (.int .i64 0), (.str []), (.int .i64 0), (.str []), (.int .i64 0), (.int .i64 0), (.int .i64 0), (.str []), (.str []), .nils, .nils, .nils, .nils, (.str []), (.bool false), (.bool false), (.str []), (.str []), (.str []), (.int .i64 0), (.str [])]
abbrev z1_ : List PV := [(.int .u8 0), (.int .u8 96), (.int .u8 66), (.int .u8 99), (.int .u8 102), (.int .u8 104), (.int .u8 74), (.int .u8 108), (.int .u8 110), (.int .u8 0), (.int .u8 100)]
abbrev z10_ : List PV := [(.int .u8 0), (.int .u8 160), (.int .u8 161), (.int .u8 162), (.int .u8 163), (.int .u8 165), (.int .u8 166), (.int .u8 135), (.int .u8 164)]
abbrev XtW : List PV := [(.int .u8 0), (.int .u8 97), (.int .u8 0), (.int .u8 101), (.int .u8 103), (.int .u8 105), (.int .u8 107), (.int .u8 109), (.int .u8 111)]
abbrev z14_ : List PV := [(.int .u8 0), (.int .u8 97), (.int .u8 0), (.int .u8 101), (.int .u8 103), (.int .u8 105), (.int .u8 107), (.int .u8 109), (.int .u8 0)]
abbrev z16_ : List PV := [(.int .u8 0), (.int .u8 97), (.int .u8 0), (.int .u8 101), (.int .u8 103), (.int .u8 105), (.int .u8 107), (.int .u8 0), (.int .u8 0)]
abbrev z18_ : List PV := [(.int .u8 0), (.int .u8 97), (.int .u8 0), (.int .u8 101), (.int .u8 103), (.int .u8 105), (.int .u8 0), (.int .u8 0), (.int .u8 0)]
abbrev z20_ : List PV := [(.int .u8 0), (.int .u8 97), (.int .u8 0), (.int .u8 101), (.int .u8 103), (.int .u8 0), (.int .u8 0), (.int .u8 0), (.int .u8 0)]
abbrev z22_ : List PV := [(.int .u8 0), (.int .u8 97), (.int .u8 0), (.int .u8 101), (.int .u8 0), (.int .u8 0), (.int .u8 0), (.int .u8 0), (.int .u8 0)]
abbrev Xwf : List PV := [(.int .u8 0), (.int .u8 97), (.int .u8 0), (.int .u8 0), (.int .u8 0), (.int .u8 0), (.int .u8 0), (.int .u8 0), (.int .u8 0)]
abbrev XoD : List PV := [(.int .i64 1), (.int .i64 2), (.int .i64 3), (.int .i64 4), (.int .i64 8), (.int .i64 5), (.int .i64 6), (.int .i64 0)]
def Q (f : FuncId) (bs : List PV) (v : PV) : Prop := Qe env f bs v
theorem sv {f : FuncId} {vs ws : List PV} {v : PV} (h : Q f ws v) (ha : vs.map PV.strip = ws := by simp only [List.map_cons, List.map_nil, Xad, Xbo, Xao, XbH, Xbc, XbN, Xap, Xbp, Xaq, Xax, Xhq, Xl4, XaI, Xhr, Xig, Xai, XbS, Xal] <;> rfl) : ∀ S, evw env f vs S = some (v, S, false) := h ha
abbrev XbJ (x : Xae) (v0 v1 : PV) : List PV := [(.int .i64 x.Kind), (.str x.Attr), (.str x.Value), v0, v1]
abbrev XkE (x : Xat) (v0 : PV) : List PV := [(.int .i64 x.Kind), (.str x.Attr), v0]
abbrev XaO (x : Xay) (v0 v1 v2 v3 : PV) : List PV := [(.int .i64 x.ID), (.int .i64 x.Op), (.int .i64 x.Of), (.str x.DN), (.int .i64 x.Version), (.str x.Pass), (.int .i64 x.Scope), (.int .i64 x.Size), (.int .i64 x.Filter.Kind), (.str x.Filter.Attr), (.str x.Filter.Value), v0, v1, v2, v3, (.str x.RDN), (.bool x.DelOld), (.bool x.HasSup), (.str x.Sup), (.str x.Attr), (.str x.Value), (.int .i64 x.Code), (.str x.Matched)]
abbrev Xau (x : Xab) (v0 : PV) : List PV := [(.int .u8 x.Tag), (.str x.Body), v0]
theorem cq {p : Prop} (h : p := by simp [PV.clean, XaW, XaR XdQ, XaR Xb4, XaR XcB, XaR Xdh]) : p := h
theorem WS {env : Env} {fr : Fr} {op : Op} {d : Option Nat} {wr : Bool} {rest : List POp} {σ S e S'} {v : PV} {e' : Bool} {K : KS} (hd : XaS fr.ntmps d = true)
  (hs : stF env fr σ S ⟨d, op, none, wr⟩ = some (v, S', e')) (h : WO env fr rest (upd σ d v) S' (e || e') K) : WO env fr (⟨d, op, none, wr⟩ :: rest) σ S e K := WO.step hd hs h
abbrev A_ := @WO.nil
abbrev B_ := @WC.seqR
abbrev C_ := @KX.seq_n
abbrev D_ := @Nat.le_of_ble_eq_true
abbrev E_ := @WO.of_known
abbrev F_ := @WC.condT
abbrev G_ := @WC.condF
abbrev H_ := @KX.seq_r
abbrev I_ := @WC.seq
abbrev J_ := @KX.of_known
abbrev K_ := @KX.seq_x
abbrev L_ := @Xjv
abbrev M_ := @WC.skip
abbrev N_ := @WO.go0
abbrev O_ := @WO.split
abbrev P_ := @KX.block_r
abbrev Q_ := @WC.ret
abbrev R_ := @WC.block
abbrev S_ := @WC.region
abbrev T_ := @Xk6
abbrev U_ := @KX.block_x
abbrev V_ := @KX.block_n
abbrev W_ := @KX.block_y
abbrev X_ := @WC.of_known
abbrev Y_ := @WC.exit
abbrev Z_ := @KB.ret
abbrev a_ := @WC.join
abbrev b_ := @WC.loop
abbrev c_ := @XcR
abbrev d_ := @WH.go0
abbrev e_ := @Xie
abbrev f_ := @WH.nil
abbrev g_ := @Hp.start
abbrev h_ := @WC.draw
abbrev i_ := @WH.by
abbrev j_ := @WC.drawC
abbrev k_ := @WH.step
abbrev l_ := @WO.by0
abbrev m_ := @Xe0
abbrev n_ := @XcA
abbrev o_ := @WB.of
abbrev p_ := @WK.callP
end Go.Proofs.YtbinlabnilidiaaGreatDoor.M
