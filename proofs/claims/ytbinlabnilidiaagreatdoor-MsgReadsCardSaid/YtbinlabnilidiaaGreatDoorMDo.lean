/- Part of the proof: the runs of functions on the abstract machine. -/
import Derived.Test.YtbinlabnilidiaaGreatDoorPamM4
import Derived.Test.YtbinlabnilidiaaGreatDoorFns
import Derived.Test.YtbinlabnilidiaaGreatDoorMDe
namespace Go.Proofs.YtbinlabnilidiaaGreatDoor.M
open Go Go.Pam Go.RowKit Go.WideShapes
set_option maxRecDepth 4000
set_option linter.unusedVariables false
set_option linter.unusedSimpArgs false
inductive Ok_Api_Filter : Xae → Prop
 | mk (x : Xae) (h0 : (Lit.int .i64 x.Kind).wf = true) (h1 : x.Attr.length ≤ maxLen) (h2 : x.Value.length ≤ maxLen) (h3 : ((Sl.l x.Subs).length ≤ maxLen ∧ ∀ a ∈ Sl.l x.Subs, a.length ≤ maxLen)) (h4 : (Sl.l x.Kids).length ≤ maxLen) (g4 : ∀ a ∈ Sl.l x.Kids, Ok_Api_Filter a) : Ok_Api_Filter x
theorem Xfr {H : Type} {enc : TypeId × Value → H} {w : World} {sp : Nat → Bool} {held : Bool} (hsp : ∀ b, sp b = true) : ∀ fuel, XgC enc Tryz.prog w sp held fuel 25 Xan Ok_Api_Filter := by
 intro fuel
 induction fuel using Nat.strongRecOn with
 | ind fuel ih =>
 intro cs x h
 obtain ⟨xs, m, rfl, _, hl, hx, hf⟩ := DataW.trod_struct Tryz.underlying25 h
 have hl : cs.length = 5 := hl.trans (by kernel_rfl)
 have hx : xs.length = 5 := hx
 have c0 : ∃ y, DataW.trod enc Tryz.prog w 0 sp held m 3 ((cs.drop 0).take 1) = some y := by
  have h1 := hf 0 _ rfl
  have h2 : DataW.trod enc Tryz.prog w 0 sp held m 3 ((cs.drop 0).take (Tryz.prog.cellsOf 3)) = xs[0]? := h1
  rw [show Tryz.prog.cellsOf 3 = 1 from by kernel_rfl, List.getElem?_eq_getElem (by omega)] at h2
  exact ⟨_, h2⟩
 obtain ⟨y0, hy0⟩ := c0
 obtain ⟨a0, o0, v0⟩ := (fun m => Xb3 Tryz.underlying3) m _ _ hy0
 have c1 : ∃ y, DataW.trod enc Tryz.prog w 0 sp held m 9 ((cs.drop 1).take 1) = some y := by
  have h1 := hf 1 _ rfl
  have h2 : DataW.trod enc Tryz.prog w 0 sp held m 9 ((cs.drop 1).take (Tryz.prog.cellsOf 9)) = xs[1]? := h1
  rw [show Tryz.prog.cellsOf 9 = 1 from by kernel_rfl, List.getElem?_eq_getElem (by omega)] at h2
  exact ⟨_, h2⟩
 obtain ⟨y1, hy1⟩ := c1
 obtain ⟨a1, o1, v1⟩ := (fun m => Xbt Tryz.underlying9) m _ _ hy1
 have c2 : ∃ y, DataW.trod enc Tryz.prog w 0 sp held m 9 ((cs.drop 2).take 1) = some y := by
  have h1 := hf 2 _ rfl
  have h2 : DataW.trod enc Tryz.prog w 0 sp held m 9 ((cs.drop 2).take (Tryz.prog.cellsOf 9)) = xs[2]? := h1
  rw [show Tryz.prog.cellsOf 9 = 1 from by kernel_rfl, List.getElem?_eq_getElem (by omega)] at h2
  exact ⟨_, h2⟩
 obtain ⟨y2, hy2⟩ := c2
 obtain ⟨a2, o2, v2⟩ := (fun m => Xbt Tryz.underlying9) m _ _ hy2
 have c3 : ∃ y, DataW.trod enc Tryz.prog w 0 sp held m 22 ((cs.drop 3).take 1) = some y := by
  have h1 := hf 3 _ rfl
  have h2 : DataW.trod enc Tryz.prog w 0 sp held m 22 ((cs.drop 3).take (Tryz.prog.cellsOf 22)) = xs[3]? := h1
  rw [show Tryz.prog.cellsOf 22 = 1 from by kernel_rfl, List.getElem?_eq_getElem (by omega)] at h2
  exact ⟨_, h2⟩
 obtain ⟨y3, hy3⟩ := c3
 obtain ⟨a3, o3, v3⟩ := (fun m => XcL (sz := 1) Tryz.underlying22 (by kernel_rfl) (by decide) (fun _ => rfl) hsp (fun n _ => (fun m => Xbt Tryz.underlying9) n)) m _ _ hy3
 have c4 : ∃ y, DataW.trod enc Tryz.prog w 0 sp held m 23 ((cs.drop 4).take 1) = some y := by
  have h1 := hf 4 _ rfl
  have h2 : DataW.trod enc Tryz.prog w 0 sp held m 23 ((cs.drop 4).take (Tryz.prog.cellsOf 23)) = xs[4]? := h1
  rw [show Tryz.prog.cellsOf 23 = 1 from by kernel_rfl, List.getElem?_eq_getElem (by omega)] at h2
  exact ⟨_, h2⟩
 obtain ⟨y4, hy4⟩ := c4
 obtain ⟨a4, o4, v4⟩ := (fun m => XcL (sz := 5) Tryz.underlying23 (by kernel_rfl) (by decide) (fun a => (Xdx a).2.1) hsp (fun n hn => ih n (by omega))) m _ _ hy4
 refine ⟨⟨a0, a1, a2, a3, a4⟩, .mk _ o0 o1 o2 o3 o4.1 o4.2, ?_⟩
 rw [XaA]
 have hc := CV.field v0 (CV.field v1 (CV.field v2 (CV.field v3 (CV.field v4 (CV.fin hl)))))
 rw [List.drop_zero] at hc
 rw [show (Xar eS a3).cells = [Xar eS a3] from (c_ _ a3).one.2] at hc
 rw [show (Xar Xan a4).cells = [Xar Xan a4] from (c_ _ a4).one.2] at hc
 exact hc
structure XgT (x : Xat) : Prop where
 h0 : (Lit.int .i64 x.Kind).wf = true
 h1 : x.Attr.length ≤ maxLen
 h2 : ((Sl.l x.Values).length ≤ maxLen ∧ ∀ a ∈ Sl.l x.Values, a.length ≤ maxLen)
theorem Xhx {H : Type} {enc : TypeId × Value → H} {w : World} {sp : Nat → Bool} {held : Bool} (hsp : ∀ b, sp b = true) : ∀ fuel, XgC enc Tryz.prog w sp held fuel 45 Xao XgT := by
 intro fuel
 induction fuel using Nat.strongRecOn with
 | ind fuel ih =>
 intro cs x h
 obtain ⟨xs, m, rfl, _, hl, hx, hf⟩ := DataW.trod_struct Tryz.underlying45 h
 have hl : cs.length = 3 := hl.trans (by kernel_rfl)
 have hx : xs.length = 3 := hx
 have c0 : ∃ y, DataW.trod enc Tryz.prog w 0 sp held m 3 ((cs.drop 0).take 1) = some y := by
  have h1 := hf 0 _ rfl
  have h2 : DataW.trod enc Tryz.prog w 0 sp held m 3 ((cs.drop 0).take (Tryz.prog.cellsOf 3)) = xs[0]? := h1
  rw [show Tryz.prog.cellsOf 3 = 1 from by kernel_rfl, List.getElem?_eq_getElem (by omega)] at h2
  exact ⟨_, h2⟩
 obtain ⟨y0, hy0⟩ := c0
 obtain ⟨a0, o0, v0⟩ := (fun m => Xb3 Tryz.underlying3) m _ _ hy0
 have c1 : ∃ y, DataW.trod enc Tryz.prog w 0 sp held m 9 ((cs.drop 1).take 1) = some y := by
  have h1 := hf 1 _ rfl
  have h2 : DataW.trod enc Tryz.prog w 0 sp held m 9 ((cs.drop 1).take (Tryz.prog.cellsOf 9)) = xs[1]? := h1
  rw [show Tryz.prog.cellsOf 9 = 1 from by kernel_rfl, List.getElem?_eq_getElem (by omega)] at h2
  exact ⟨_, h2⟩
 obtain ⟨y1, hy1⟩ := c1
 obtain ⟨a1, o1, v1⟩ := (fun m => Xbt Tryz.underlying9) m _ _ hy1
 have c2 : ∃ y, DataW.trod enc Tryz.prog w 0 sp held m 22 ((cs.drop 2).take 1) = some y := by
  have h1 := hf 2 _ rfl
  have h2 : DataW.trod enc Tryz.prog w 0 sp held m 22 ((cs.drop 2).take (Tryz.prog.cellsOf 22)) = xs[2]? := h1
  rw [show Tryz.prog.cellsOf 22 = 1 from by kernel_rfl, List.getElem?_eq_getElem (by omega)] at h2
  exact ⟨_, h2⟩
 obtain ⟨y2, hy2⟩ := c2
 obtain ⟨a2, o2, v2⟩ := (fun m => XcL (sz := 1) Tryz.underlying22 (by kernel_rfl) (by decide) (fun _ => rfl) hsp (fun n _ => (fun m => Xbt Tryz.underlying9) n)) m _ _ hy2
 refine ⟨⟨a0, a1, a2⟩, ⟨o0, o1, o2⟩, ?_⟩
 rw [Xaz]
 have hc := CV.field v0 (CV.field v1 (CV.field v2 (CV.fin hl)))
 rw [List.drop_zero] at hc
 rw [show (Xar eS a2).cells = [Xar eS a2] from (c_ _ a2).one.2] at hc
 exact hc
structure XgU (x : Xay) : Prop where
 h0 : (Lit.int .i64 x.ID).wf = true
 h1 : (Lit.int .i64 x.Op).wf = true
 h2 : (Lit.int .i64 x.Of).wf = true
 h3 : x.DN.length ≤ maxLen
 h4 : (Lit.int .i64 x.Version).wf = true
 h5 : x.Pass.length ≤ maxLen
 h6 : (Lit.int .i64 x.Scope).wf = true
 h7 : (Lit.int .i64 x.Size).wf = true
 h8 : Ok_Api_Filter x.Filter
 h9 : ((Sl.l x.Wants).length ≤ maxLen ∧ ∀ a ∈ Sl.l x.Wants, a.length ≤ maxLen)
 h10 : ((Sl.l x.Mods).length ≤ maxLen ∧ ∀ a ∈ Sl.l x.Mods, XgT a)
 h11 : x.RDN.length ≤ maxLen
 h12 : True
 h13 : True
 h14 : x.Sup.length ≤ maxLen
 h15 : x.Attr.length ≤ maxLen
 h16 : x.Value.length ≤ maxLen
 h17 : (Lit.int .i64 x.Code).wf = true
 h18 : x.Matched.length ≤ maxLen
theorem Xhy {H : Type} {enc : TypeId × Value → H} {w : World} {sp : Nat → Bool} {held : Bool} (hsp : ∀ b, sp b = true) : ∀ fuel, XgC enc Tryz.prog w sp held fuel 28 XbH XgU := by
 intro fuel
 induction fuel using Nat.strongRecOn with
 | ind fuel ih =>
 intro cs x h
 obtain ⟨xs, m, rfl, _, hl, hx, hf⟩ := DataW.trod_struct Tryz.underlying28 h
 have hl : cs.length = 23 := hl.trans (by kernel_rfl)
 have hx : xs.length = 19 := hx
 have c0 : ∃ y, DataW.trod enc Tryz.prog w 0 sp held m 3 ((cs.drop 0).take 1) = some y := by
  have h1 := hf 0 _ rfl
  have h2 : DataW.trod enc Tryz.prog w 0 sp held m 3 ((cs.drop 0).take (Tryz.prog.cellsOf 3)) = xs[0]? := h1
  rw [show Tryz.prog.cellsOf 3 = 1 from by kernel_rfl, List.getElem?_eq_getElem (by omega)] at h2
  exact ⟨_, h2⟩
 obtain ⟨y0, hy0⟩ := c0
 obtain ⟨a0, o0, v0⟩ := (fun m => Xb3 Tryz.underlying3) m _ _ hy0
 have c1 : ∃ y, DataW.trod enc Tryz.prog w 0 sp held m 3 ((cs.drop 1).take 1) = some y := by
  have h1 := hf 1 _ rfl
  have h2 : DataW.trod enc Tryz.prog w 0 sp held m 3 ((cs.drop 1).take (Tryz.prog.cellsOf 3)) = xs[1]? := h1
  rw [show Tryz.prog.cellsOf 3 = 1 from by kernel_rfl, List.getElem?_eq_getElem (by omega)] at h2
  exact ⟨_, h2⟩
 obtain ⟨y1, hy1⟩ := c1
 obtain ⟨a1, o1, v1⟩ := (fun m => Xb3 Tryz.underlying3) m _ _ hy1
 have c2 : ∃ y, DataW.trod enc Tryz.prog w 0 sp held m 3 ((cs.drop 2).take 1) = some y := by
  have h1 := hf 2 _ rfl
  have h2 : DataW.trod enc Tryz.prog w 0 sp held m 3 ((cs.drop 2).take (Tryz.prog.cellsOf 3)) = xs[2]? := h1
  rw [show Tryz.prog.cellsOf 3 = 1 from by kernel_rfl, List.getElem?_eq_getElem (by omega)] at h2
  exact ⟨_, h2⟩
 obtain ⟨y2, hy2⟩ := c2
 obtain ⟨a2, o2, v2⟩ := (fun m => Xb3 Tryz.underlying3) m _ _ hy2
 have c3 : ∃ y, DataW.trod enc Tryz.prog w 0 sp held m 9 ((cs.drop 3).take 1) = some y := by
  have h1 := hf 3 _ rfl
  have h2 : DataW.trod enc Tryz.prog w 0 sp held m 9 ((cs.drop 3).take (Tryz.prog.cellsOf 9)) = xs[3]? := h1
  rw [show Tryz.prog.cellsOf 9 = 1 from by kernel_rfl, List.getElem?_eq_getElem (by omega)] at h2
  exact ⟨_, h2⟩
 obtain ⟨y3, hy3⟩ := c3
 obtain ⟨a3, o3, v3⟩ := (fun m => Xbt Tryz.underlying9) m _ _ hy3
 have c4 : ∃ y, DataW.trod enc Tryz.prog w 0 sp held m 3 ((cs.drop 4).take 1) = some y := by
  have h1 := hf 4 _ rfl
  have h2 : DataW.trod enc Tryz.prog w 0 sp held m 3 ((cs.drop 4).take (Tryz.prog.cellsOf 3)) = xs[4]? := h1
  rw [show Tryz.prog.cellsOf 3 = 1 from by kernel_rfl, List.getElem?_eq_getElem (by omega)] at h2
  exact ⟨_, h2⟩
 obtain ⟨y4, hy4⟩ := c4
 obtain ⟨a4, o4, v4⟩ := (fun m => Xb3 Tryz.underlying3) m _ _ hy4
 have c5 : ∃ y, DataW.trod enc Tryz.prog w 0 sp held m 9 ((cs.drop 5).take 1) = some y := by
  have h1 := hf 5 _ rfl
  have h2 : DataW.trod enc Tryz.prog w 0 sp held m 9 ((cs.drop 5).take (Tryz.prog.cellsOf 9)) = xs[5]? := h1
  rw [show Tryz.prog.cellsOf 9 = 1 from by kernel_rfl, List.getElem?_eq_getElem (by omega)] at h2
  exact ⟨_, h2⟩
 obtain ⟨y5, hy5⟩ := c5
 obtain ⟨a5, o5, v5⟩ := (fun m => Xbt Tryz.underlying9) m _ _ hy5
 have c6 : ∃ y, DataW.trod enc Tryz.prog w 0 sp held m 3 ((cs.drop 6).take 1) = some y := by
  have h1 := hf 6 _ rfl
  have h2 : DataW.trod enc Tryz.prog w 0 sp held m 3 ((cs.drop 6).take (Tryz.prog.cellsOf 3)) = xs[6]? := h1
  rw [show Tryz.prog.cellsOf 3 = 1 from by kernel_rfl, List.getElem?_eq_getElem (by omega)] at h2
  exact ⟨_, h2⟩
 obtain ⟨y6, hy6⟩ := c6
 obtain ⟨a6, o6, v6⟩ := (fun m => Xb3 Tryz.underlying3) m _ _ hy6
 have c7 : ∃ y, DataW.trod enc Tryz.prog w 0 sp held m 3 ((cs.drop 7).take 1) = some y := by
  have h1 := hf 7 _ rfl
  have h2 : DataW.trod enc Tryz.prog w 0 sp held m 3 ((cs.drop 7).take (Tryz.prog.cellsOf 3)) = xs[7]? := h1
  rw [show Tryz.prog.cellsOf 3 = 1 from by kernel_rfl, List.getElem?_eq_getElem (by omega)] at h2
  exact ⟨_, h2⟩
 obtain ⟨y7, hy7⟩ := c7
 obtain ⟨a7, o7, v7⟩ := (fun m => Xb3 Tryz.underlying3) m _ _ hy7
 have c8 : ∃ y, DataW.trod enc Tryz.prog w 0 sp held m 25 ((cs.drop 8).take 5) = some y := by
  have h1 := hf 8 _ rfl
  have h2 : DataW.trod enc Tryz.prog w 0 sp held m 25 ((cs.drop 8).take (Tryz.prog.cellsOf 25)) = xs[8]? := h1
  rw [show Tryz.prog.cellsOf 25 = 5 from by kernel_rfl, List.getElem?_eq_getElem (by omega)] at h2
  exact ⟨_, h2⟩
 obtain ⟨y8, hy8⟩ := c8
 obtain ⟨a8, o8, v8⟩ := (Xfr hsp) m _ _ hy8
 have c9 : ∃ y, DataW.trod enc Tryz.prog w 0 sp held m 22 ((cs.drop 13).take 1) = some y := by
  have h1 := hf 9 _ rfl
  have h2 : DataW.trod enc Tryz.prog w 0 sp held m 22 ((cs.drop 13).take (Tryz.prog.cellsOf 22)) = xs[9]? := h1
  rw [show Tryz.prog.cellsOf 22 = 1 from by kernel_rfl, List.getElem?_eq_getElem (by omega)] at h2
  exact ⟨_, h2⟩
 obtain ⟨y9, hy9⟩ := c9
 obtain ⟨a9, o9, v9⟩ := (fun m => XcL (sz := 1) Tryz.underlying22 (by kernel_rfl) (by decide) (fun _ => rfl) hsp (fun n _ => (fun m => Xbt Tryz.underlying9) n)) m _ _ hy9
 have c10 : ∃ y, DataW.trod enc Tryz.prog w 0 sp held m 26 ((cs.drop 14).take 1) = some y := by
  have h1 := hf 10 _ rfl
  have h2 : DataW.trod enc Tryz.prog w 0 sp held m 26 ((cs.drop 14).take (Tryz.prog.cellsOf 26)) = xs[10]? := h1
  rw [show Tryz.prog.cellsOf 26 = 1 from by kernel_rfl, List.getElem?_eq_getElem (by omega)] at h2
  exact ⟨_, h2⟩
 obtain ⟨y10, hy10⟩ := c10
 obtain ⟨a10, o10, v10⟩ := (fun m => XcL (sz := 3) Tryz.underlying26 (by kernel_rfl) (by decide) (fun a => (Xe4 a).2.1) hsp (fun n _ => (Xhx hsp) n)) m _ _ hy10
 have c11 : ∃ y, DataW.trod enc Tryz.prog w 0 sp held m 9 ((cs.drop 15).take 1) = some y := by
  have h1 := hf 11 _ rfl
  have h2 : DataW.trod enc Tryz.prog w 0 sp held m 9 ((cs.drop 15).take (Tryz.prog.cellsOf 9)) = xs[11]? := h1
  rw [show Tryz.prog.cellsOf 9 = 1 from by kernel_rfl, List.getElem?_eq_getElem (by omega)] at h2
  exact ⟨_, h2⟩
 obtain ⟨y11, hy11⟩ := c11
 obtain ⟨a11, o11, v11⟩ := (fun m => Xbt Tryz.underlying9) m _ _ hy11
 have c12 : ∃ y, DataW.trod enc Tryz.prog w 0 sp held m 4 ((cs.drop 16).take 1) = some y := by
  have h1 := hf 12 _ rfl
  have h2 : DataW.trod enc Tryz.prog w 0 sp held m 4 ((cs.drop 16).take (Tryz.prog.cellsOf 4)) = xs[12]? := h1
  rw [show Tryz.prog.cellsOf 4 = 1 from by kernel_rfl, List.getElem?_eq_getElem (by omega)] at h2
  exact ⟨_, h2⟩
 obtain ⟨y12, hy12⟩ := c12
 obtain ⟨a12, o12, v12⟩ := (fun m => XgP Tryz.underlying4) m _ _ hy12
 have c13 : ∃ y, DataW.trod enc Tryz.prog w 0 sp held m 4 ((cs.drop 17).take 1) = some y := by
  have h1 := hf 13 _ rfl
  have h2 : DataW.trod enc Tryz.prog w 0 sp held m 4 ((cs.drop 17).take (Tryz.prog.cellsOf 4)) = xs[13]? := h1
  rw [show Tryz.prog.cellsOf 4 = 1 from by kernel_rfl, List.getElem?_eq_getElem (by omega)] at h2
  exact ⟨_, h2⟩
 obtain ⟨y13, hy13⟩ := c13
 obtain ⟨a13, o13, v13⟩ := (fun m => XgP Tryz.underlying4) m _ _ hy13
 have c14 : ∃ y, DataW.trod enc Tryz.prog w 0 sp held m 9 ((cs.drop 18).take 1) = some y := by
  have h1 := hf 14 _ rfl
  have h2 : DataW.trod enc Tryz.prog w 0 sp held m 9 ((cs.drop 18).take (Tryz.prog.cellsOf 9)) = xs[14]? := h1
  rw [show Tryz.prog.cellsOf 9 = 1 from by kernel_rfl, List.getElem?_eq_getElem (by omega)] at h2
  exact ⟨_, h2⟩
 obtain ⟨y14, hy14⟩ := c14
 obtain ⟨a14, o14, v14⟩ := (fun m => Xbt Tryz.underlying9) m _ _ hy14
 have c15 : ∃ y, DataW.trod enc Tryz.prog w 0 sp held m 9 ((cs.drop 19).take 1) = some y := by
  have h1 := hf 15 _ rfl
  have h2 : DataW.trod enc Tryz.prog w 0 sp held m 9 ((cs.drop 19).take (Tryz.prog.cellsOf 9)) = xs[15]? := h1
  rw [show Tryz.prog.cellsOf 9 = 1 from by kernel_rfl, List.getElem?_eq_getElem (by omega)] at h2
  exact ⟨_, h2⟩
 obtain ⟨y15, hy15⟩ := c15
 obtain ⟨a15, o15, v15⟩ := (fun m => Xbt Tryz.underlying9) m _ _ hy15
 have c16 : ∃ y, DataW.trod enc Tryz.prog w 0 sp held m 9 ((cs.drop 20).take 1) = some y := by
  have h1 := hf 16 _ rfl
  have h2 : DataW.trod enc Tryz.prog w 0 sp held m 9 ((cs.drop 20).take (Tryz.prog.cellsOf 9)) = xs[16]? := h1
  rw [show Tryz.prog.cellsOf 9 = 1 from by kernel_rfl, List.getElem?_eq_getElem (by omega)] at h2
  exact ⟨_, h2⟩
 obtain ⟨y16, hy16⟩ := c16
 obtain ⟨a16, o16, v16⟩ := (fun m => Xbt Tryz.underlying9) m _ _ hy16
 have c17 : ∃ y, DataW.trod enc Tryz.prog w 0 sp held m 3 ((cs.drop 21).take 1) = some y := by
  have h1 := hf 17 _ rfl
  have h2 : DataW.trod enc Tryz.prog w 0 sp held m 3 ((cs.drop 21).take (Tryz.prog.cellsOf 3)) = xs[17]? := h1
  rw [show Tryz.prog.cellsOf 3 = 1 from by kernel_rfl, List.getElem?_eq_getElem (by omega)] at h2
  exact ⟨_, h2⟩
 obtain ⟨y17, hy17⟩ := c17
 obtain ⟨a17, o17, v17⟩ := (fun m => Xb3 Tryz.underlying3) m _ _ hy17
 have c18 : ∃ y, DataW.trod enc Tryz.prog w 0 sp held m 9 ((cs.drop 22).take 1) = some y := by
  have h1 := hf 18 _ rfl
  have h2 : DataW.trod enc Tryz.prog w 0 sp held m 9 ((cs.drop 22).take (Tryz.prog.cellsOf 9)) = xs[18]? := h1
  rw [show Tryz.prog.cellsOf 9 = 1 from by kernel_rfl, List.getElem?_eq_getElem (by omega)] at h2
  exact ⟨_, h2⟩
 obtain ⟨y18, hy18⟩ := c18
 obtain ⟨a18, o18, v18⟩ := (fun m => Xbt Tryz.underlying9) m _ _ hy18
 refine ⟨⟨a0, a1, a2, a3, a4, a5, a6, a7, a8, a9, a10, a11, a12, a13, a14, a15, a16, a17, a18⟩, ⟨o0, o1, o2, o3, o4, o5, o6, o7, o8, o9, o10, o11, o12, o13, o14, o15, o16, o17, o18⟩, ?_⟩
 rw [XfW]
 have hc := CV.field v0 (CV.field v1 (CV.field v2 (CV.field v3 (CV.field v4 (CV.field v5 (CV.field v6 (CV.field v7 (CV.field v8 (CV.field v9 (CV.field v10 (CV.field v11 (CV.field v12 (CV.field v13 (CV.field v14 (CV.field v15 (CV.field v16 (CV.field v17 (CV.field v18 (CV.fin hl)))))))))))))))))))
 rw [List.drop_zero] at hc
 rw [show (Xar eS a9).cells = [Xar eS a9] from (c_ _ a9).one.2] at hc
 rw [show (Xar Xao a10).cells = [Xar Xao a10] from (c_ _ a10).one.2] at hc
 rw [XaA] at hc
 exact hc
end Go.Proofs.YtbinlabnilidiaaGreatDoor.M
