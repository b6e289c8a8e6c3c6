/- Part of the proof: the runs of functions on the abstract machine. -/
import Derived.Test.YtbinlabnilidiaaGreatDoorPamM4
import Derived.Test.YtbinlabnilidiaaGreatDoorFns
import Derived.Test.YtbinlabnilidiaaGreatDoorMDe
import Derived.Test.YtbinlabnilidiaaGreatDoorMDc
import Derived.Test.YtbinlabnilidiaaGreatDoorMDc1
import Derived.Test.YtbinlabnilidiaaGreatDoorMDr
import Derived.Test.YtbinlabnilidiaaGreatDoorMDr1
import Derived.Test.YtbinlabnilidiaaGreatDoorMDw
import Derived.Test.YtbinlabnilidiaaGreatDoorMDd
namespace Go.Proofs.YtbinlabnilidiaaGreatDoor.M
open Go Go.Pam Go.RowKit Go.WideShapes
set_option maxRecDepth 8000
set_option linter.unusedVariables false
set_option linter.unusedSimpArgs false
def F45 (k : Nat) (a0 : Str) : Option (Xay × Er) :=
 (F72 k a0).bind fun y2 =>
 if y2.2.2.2 != 0 then
 some ((Xay.mk 0 0 0 [] 0 [] 0 0 (Xae.mk 0 [] [] none none) none none [] false false [] [] [] 0 []), (Er.at y2.2.2.2 y2.2.2.1))
 else
 (F73 k y2.1).bind fun y7 =>
 (F9 k y7).bind fun y9 =>
 if ((y9.2 != 0) || (y2.2.1 != (Str.len a0))) || (!(y9.1 == a0)) then
 some ((Xay.mk 0 0 0 [] 0 [] 0 0 (Xae.mk 0 [] [] none none) none none [] false false [] [] [] 0 []), (Er.at 14 0))
 else
 some (y7, Er.nil)
theorem s45 : ∀ k : Nat, ∀ {a0 : Str} {r : Xay × Er}, F45 k a0 = some r → ∀ S : List SObj, ∃ v S', evw env 45 [(.str a0)] S = some (v, S', false) ∧ ErA 31 96 (fun v => .tup [(.agg (Xak r.1)), v]) S r.2 v S' := by
 intro k a0 r h S
 unfold F45 at h
 refine XlC (TE := 31) (TP := 96) (mk := fun v => .tup [(.agg (Xak r.1)), v]) (pf := XtF) rfl rfl rfl (D_ rfl) rfl (by simp [PV.strip, PV.strip2, PV.strip1, PV.clean, XaW, XaR Xb4, XaR XcB, XaR XdQ]) (fun _ => by simp [PV.strip, PV.strip2, PV.strip1, PV.clean, XaW, XaR Xb4, XaR XcB, XaR XdQ]) (fun _ => by simp [PV.strip, PV.strip2, PV.strip1, PV.clean, XaW, XaR Xb4, XaR XcB, XaR XdQ]) ?_ S
 intro S0
 refine o_ (pf := XtF) rfl ?_
 have H := g_ S0
 refine B_ <| Wa (ti := XgD) H rfl ?_
 intro i1 S hi1 H
 refine us 1 rfl <| A_ <| B_ <| us 1 rfl ?_
 obtain ⟨y2, hy2, h⟩ := Xaf h
 refine Cl (.tup [(.agg (Xaa y2.1)), (.int .i64 y2.2.1), (.int .i64 y2.2.2.1), (.int .i64 y2.2.2.2)]) [(.str a0)] rfl rfl (s72 _ hy2 rfl) <| us 5 rfl <| Wa (ti := XbA) H rfl ?_
 intro i3 S hi3 H
 refine Ws 0 H hi3 rfl ?_
 intro S H
 refine us 3 rfl <| A_ <| I_ <| B_ <| us 2 rfl <| A_ ?_
 rcases Xa1 h with ⟨hc4, h⟩ | ⟨hc4, h⟩
 refine F_ rfl hc4 <| B_ <| w (.agg z0_) rfl (nz rfl (XaH (ti := XgD) rfl rfl rfl rfl rfl rfl)) <| us 3 rfl <| w (.agg [(.ifc 31 (.int .i64 y2.2.2.2)), (.int .i64 y2.2.2.1)]) rfl (nz rfl (XaH (ti := Xty) rfl rfl rfl rfl rfl (Xav rfl rfl rfl rfl (D_ rfl) rfl (Xav rfl rfl rfl rfl (D_ rfl) rfl rfl)))) <| Wb H rfl ?_
 intro i6 S hi6 H
 refine us 1 rfl <| Ws 2 H hi1 rfl ?_
 intro S H
 refine us 1 rfl <| A_ <| Q_ <| H_ ?_
 cases oi h
 refine Z_ (vs := [(.agg z0_), (.ifc 96 (.ptr i6 0))]) (Xa0 rfl (H.get 2 rfl) rfl (T_ rfl Xas)) rfl ?_
 exact ⟨rfl, _, rfl, H.sub (.cons_cons _ (.cons _ (.cons _ .slnil))) .slnil .slnil⟩
 refine G_ rfl hc4 <| M_ <| C_ <| B_ <| Wg H 0 rfl ?_
 obtain ⟨y7, hy7, h⟩ := Xaf h
 refine Cl (.agg (Xak y7)) [(.agg (Xaa y2.1))] rfl rfl (sv (s73 _ hy7)) <| Wa (ti := XgD) H rfl ?_
 intro i8 S hi8 H
 refine Ws 0 H hi8 rfl ?_
 intro S H
 refine A_ <| I_ <| B_ <| Wg H 0 rfl ?_
 obtain ⟨y9, hy9, h⟩ := Xaf h
 refine Cl (.tup [(.str y9.1), (.int .i64 y9.2)]) [(.agg (Xak y7))] rfl rfl (sv (s9 _ hy9)) <| us 5 rfl <| A_ <| B_ <| us 1 rfl <| w (.bool (y9.2 != 0)) rfl rfl <| w (.bool (y9.2 != 0)) rfl rfl ?_
 refine O_ 5 (SH H [(0, (.str a0)), (2, (.ptr i1 0)), (8, (.ptr i8 0)), (9, (.str y9.1)), (41, (.bool ((y9.2 != 0) || (y2.2.1 != (Str.len a0)))))]) ?_ ?_
 revert H
 cases hc5 : (y9.2 != 0)
 intro H
 refine us 5 rfl <| A_ ?_
 exact kf H
 intro H
 refine us 5 rfl <| A_ ?_
 exact kf H
 rintro σ S e ⟨hk, H, rfl⟩
 refine E_ hk <| w (.bool ((y9.2 != 0) || (y2.2.1 != (Str.len a0)))) rfl rfl ?_
 refine O_ 4 (SH H [(2, (.ptr i1 0)), (8, (.ptr i8 0)), (46, (.bool (((y9.2 != 0) || (y2.2.1 != (Str.len a0))) || (!(y9.1 == a0)))))]) ?_ ?_
 revert H
 cases hc10 : ((y9.2 != 0) || (y2.2.1 != (Str.len a0)))
 intro H
 refine us 4 rfl <| A_ ?_
 exact kf H
 intro H
 refine us 4 rfl <| A_ ?_
 exact kf H
 rintro σ S e ⟨hk, H, rfl⟩
 refine E_ hk <| A_ ?_
 rcases Xa1 h with ⟨hc11, h⟩ | ⟨hc11, h⟩
 refine F_ rfl hc11 <| B_ <| w (.agg z0_) rfl (nz rfl (XaH (ti := XgD) rfl rfl rfl rfl rfl rfl)) <| us 1 rfl <| w (.agg [(.ifc 31 (.int .i64 14)), (.int .i64 0)]) rfl (nz rfl (XaH (ti := Xty) rfl rfl rfl rfl rfl (Xav rfl rfl rfl rfl (D_ rfl) rfl rfl))) <| Wb H rfl ?_
 intro i12 S hi12 H
 refine us 1 rfl <| Ws 3 H hi1 rfl ?_
 intro S H
 refine us 1 rfl <| A_ <| Q_ <| H_ ?_
 cases oi h
 refine Z_ (vs := [(.agg z0_), (.ifc 96 (.ptr i12 0))]) (Xa0 rfl (H.get 3 rfl) rfl (T_ rfl Xas)) rfl ?_
 exact ⟨rfl, _, rfl, H.sub (.cons_cons _ (.cons _ (.cons _ (.cons _ .slnil)))) .slnil .slnil⟩
 refine G_ rfl hc11 <| M_ <| C_ <| B_ <| Wg H 0 rfl <| Ws 2 H hi1 rfl ?_
 intro S H
 refine us 1 rfl <| A_ <| Q_ ?_
 cases oi h
 refine Z_ (vs := [(.agg (Xak y7)), .nili]) (Xa0 rfl (H.get 2 rfl) rfl (T_ rfl Xas)) (L_ rfl (L_ rfl rfl)) ?_
 exact ⟨rfl, show PV.strip _ = _ from (by simp only [XlB, XmL, Xa7, List.map_cons, List.map_nil, Xal, Xb1, Xap, Xaq, Xai, XbN, XbH])⟩
def F15 (k : Nat) (a0 : Str) : Option (Xay × Int) :=
 (F45 k a0).bind fun y2 =>
 match y2.2 with
 | .nil =>
 some (y2.1, 0)
 | .no en5 =>
 none
 | .at en5 ea6 =>
 some ((Xay.mk 0 0 0 [] 0 [] 0 0 (Xae.mk 0 [] [] none none) none none [] false false [] [] [] 0 []), en5)
theorem s15 : ∀ k : Nat, ∀ {a0 : Str} {r : Xay × Int}, F15 k a0 = some r → Q 15 [(.str a0)] (.tup [(.agg (Xak r.1)), (.int .i64 r.2)]) := by
 intro k a0 r h vs ha S
 unfold F15 at h
 refine e_ (pf := XtG) rfl rfl ha (D_ rfl) rfl cq ?_
 refine o_ (pf := XtG) rfl ?_
 have H := g_ []
 refine B_ <| Wa (ti := XgD) H rfl ?_
 intro i1 S hi1 H
 refine us 1 rfl <| A_ <| B_ <| us 1 rfl ?_
 obtain ⟨y2, hy2, h⟩ := Xaf h
 refine WO.callE (TE := 31) (TP := 96) (mk := fun v => .tup [(.agg (Xak y2.1)), v]) rfl rfl rfl rfl H (s45 _ hy2 _) ?_ ?_ ?_
 intro hE; rw [hE] at h; dsimp only at h
 refine us 3 rfl <| Wa (ti := XgD) H rfl ?_
 intro i3 S hi3 H
 refine Ws 0 H hi3 rfl ?_
 intro S H
 refine us 1 rfl <| A_ <| B_ <| Wa (ti := Xtx) H rfl ?_
 intro i4 S hi4 H
 refine A_ <| I_ <| B_ <| us 2 rfl <| Cl (.bool false) [.nili, (.ifc 77 (.ptr i4 0))] rfl rfl (XkB rfl _) <| A_ <| G_ rfl rfl <| M_ <| C_ <| B_ <| Wg H 1 rfl <| Ws 2 H hi1 rfl ?_
 intro S H
 refine us 1 rfl <| A_ <| Q_ ?_
 cases oi h
 refine Z_ (vs := [(.agg (Xak y2.1)), (.int .i64 0)]) (Xa0 rfl (H.get 2 rfl) rfl (T_ rfl Xas)) (L_ rfl (L_ rfl rfl)) ?_
 exact (by simp only [Xa7, List.map_cons, List.map_nil, Xal, Xb1, Xap, Xaq, Xai, XbN, Xb8, XbH, Xak])
 intro en5 hE; rw [hE] at h; dsimp only at h
 cases h
 intro en5 ea6 hE i7 S hi7 H; rw [hE] at h; dsimp only at h
 refine us 3 rfl <| Wa (ti := XgD) H rfl ?_
 intro i8 S hi8 H
 refine Ws 0 H hi8 rfl ?_
 intro S H
 refine us 1 rfl <| A_ <| B_ <| Wa (ti := Xtx) H rfl ?_
 intro i9 S hi9 H
 refine A_ <| I_ <| B_ <| us 2 rfl <| WO.callAs 2 0 (TE := 31) (TP := 96) (TT := 77) rfl rfl rfl rfl H rfl rfl rfl ?_
 intro S H
 refine A_ <| F_ rfl rfl <| I_ <| j_ <| WK.step (v := .agg z0_) rfl (nz rfl (XaH (ti := XgD) rfl rfl rfl rfl rfl rfl)) rfl rfl rfl rfl <| wkl H 0 rfl rfl rfl rfl ?_
 have Hh10 := H
 refine Wsk 3 H hi1 rfl ?_
 intro S H
 refine ⟨(Xah (ld (H.get 0 rfl) rfl) Xa9), ?_⟩
 refine WK.nil <| us 1 rfl <| A_ <| C_ <| Q_ <| H_ ?_
 cases oi h
 refine Z_ (vs := [(.agg z0_), (.int .i64 en5)]) (Xa0 rfl (H.get 3 rfl) rfl (T_ rfl Xas)) (L_ rfl (L_ rfl rfl)) ?_
 exact (by simp only [Xa7, List.map_cons, List.map_nil, Xal, Xb1, Xap, Xaq, Xbp, Xbc, XbN, Xb8, XbH, Xak])
end Go.Proofs.YtbinlabnilidiaaGreatDoor.M
