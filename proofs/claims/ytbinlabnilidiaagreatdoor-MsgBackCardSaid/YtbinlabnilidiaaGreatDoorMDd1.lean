/- Part of the proof: the runs of functions on the abstract machine. -/
import Derived.Test.YtbinlabnilidiaaGreatDoorPamM4
import Derived.Test.YtbinlabnilidiaaGreatDoorFns
import Derived.Test.YtbinlabnilidiaaGreatDoorMDe
import Derived.Test.YtbinlabnilidiaaGreatDoorMDc
import Derived.Test.YtbinlabnilidiaaGreatDoorMDc1
import Derived.Test.YtbinlabnilidiaaGreatDoorMDr
import Derived.Test.YtbinlabnilidiaaGreatDoorMDr1
import Derived.Test.YtbinlabnilidiaaGreatDoorMDw
import Derived.Test.YtbinlabnilidiaaGreatDoorMDd
namespace Go.Proofs.YtbinlabnilidiaaGreatDoor.M
open Go Go.Pam Go.RowKit Go.WideShapes
set_option maxRecDepth 8000
set_option linter.unusedVariables false
set_option linter.unusedSimpArgs false

def F45 (k : Nat) (a0 : Str) : Option (Api_Msg × Er) :=
 Option.bind (F72 k a0) fun y2 =>
 if y2.2.2.2 != 0 then
 some ((Api_Msg.mk 0 0 0 [] 0 [] 0 0 (Api_Filter.mk 0 [] [] none none) none none [] false false [] [] [] 0 []), (Er.at y2.2.2.2 y2.2.2.1))
 else
 Option.bind (F73 k y2.1) fun y7 =>
 Option.bind (F9 k y7) fun y9 =>
 if ((y9.2 != 0) || (y2.2.1 != (Str.len a0))) || (!(y9.1 == a0)) then
 some ((Api_Msg.mk 0 0 0 [] 0 [] 0 0 (Api_Filter.mk 0 [] [] none none) none none [] false false [] [] [] 0 []), (Er.at 14 0))
 else
 some (y7, Er.nil)
theorem s45 : ∀ k : Nat, ∀ {a0 : Str} {r : Api_Msg × Er}, F45 k a0 = some r → ∀ S : List SObj, ∃ v S', evw env 45 [(.str a0)] S = some (v, S', false) ∧ ErA 31 96 (fun v => .tup [(.agg (c_Api_Msg r.1)), v]) S r.2 v S' := by
 intro k a0 r h S
 unfold F45 at h
 refine evw_errW (TE := 31) (TP := 96) (mk := fun v => .tup [(.agg (c_Api_Msg r.1)), v]) (pf := fn45) rfl rfl rfl (C_ rfl) rfl (by simp [PV.strip, PV.strip2, PV.strip1, PV.clean, cleanL, clean_encSl clean_Api_Filter, clean_encSl clean_Api_Mod, clean_encSl clean_eS]) (fun _ => by simp [PV.strip, PV.strip2, PV.strip1, PV.clean, cleanL, clean_encSl clean_Api_Filter, clean_encSl clean_Api_Mod, clean_encSl clean_eS]) (fun _ => by simp [PV.strip, PV.strip2, PV.strip1, PV.clean, cleanL, clean_encSl clean_Api_Filter, clean_encSl clean_Api_Mod, clean_encSl clean_eS]) ?_ S
 intro S0
 refine WB.of (pf := fn45) rfl ?_
 have H := n_ S0
 refine B_ <| d_ (ti := ty28) rfl rfl rfl rfl H ?_
 intro i1 S hi1 H
 refine us 1 rfl <| A_ <| B_ <| us 1 rfl ?_
 obtain ⟨y2, hy2, h⟩ := bindS h
 refine cl (.tup [(.agg (c_Api_Element y2.1)), (.int .i64 y2.2.1), (.int .i64 y2.2.2.1), (.int .i64 y2.2.2.2)]) [(.str a0)] rfl rfl rfl rfl (s72 _ hy2 rfl) <| us 5 rfl <| d_ (ti := ty50) rfl rfl rfl rfl H ?_
 intro i3 S hi3 H
 refine wos 0 H hi3 rfl rfl rfl rfl rfl rfl rfl rfl rfl rfl ?_
 intro S H
 replace H : Hp S0 [] _ [(i3, .cells (c_Api_Element y2.1)), (i1, .cells z0_)] [] [] := H
 refine us 3 rfl <| A_ <| J_ <| B_ <| us 2 rfl <| A_ ?_
 rcases iteS h with ⟨hc16, h⟩ | ⟨hc16, h⟩
 refine G_ rfl hc16 <| B_ <| w (.agg z0_) rfl (nz rfl (stp_build (ti := ty28) rfl rfl rfl rfl rfl rfl)) <| us 3 rfl <| w (.agg [(.ifc 31 (.int .i64 y2.2.2.2)), (.int .i64 y2.2.2.1)]) rfl (nz rfl (stp_build (ti := ty98) rfl rfl rfl rfl rfl (fill_cons rfl rfl rfl rfl (C_ rfl) rfl (fill_cons rfl rfl rfl rfl (C_ rfl) rfl rfl)))) <| g_ rfl rfl rfl rfl rfl H ?_
 intro i6 S hi6 H
 refine us 1 rfl <| wos 2 H hi1 rfl rfl rfl rfl rfl rfl rfl rfl rfl rfl ?_
 intro S H
 replace H : Hp S0 [] _ [(i6, .cells [(.ifc 31 (.int .i64 y2.2.2.2)), (.int .i64 y2.2.2.1)]), (i3, .cells (c_Api_Element y2.1)), (i1, .cells z0_)] [] [] := H
 refine us 1 rfl <| A_ <| R_ <| I_ ?_
 have h := oi h; subst h
 refine e_ (vs := [(.agg z0_), (.ifc 96 (.ptr i6 0))]) (res_cell rfl (H.get 2 rfl) rfl (Y_ rfl res_nil)) rfl ?_
 exact ⟨rfl, _, rfl, H.sub (.cons_cons _ (.cons _ (.cons _ .slnil))) .slnil .slnil⟩
 refine H_ rfl hc16 <| N_ <| D_ <| B_ <| wg H 0 rfl rfl rfl rfl ?_
 obtain ⟨y7, hy7, h⟩ := bindS h
 refine cl (.agg (c_Api_Msg y7)) [(.agg (c_Api_Element y2.1))] rfl rfl rfl rfl (sv (s73 _ hy7)) <| d_ (ti := ty28) rfl rfl rfl rfl H ?_
 intro i8 S hi8 H
 refine wos 0 H hi8 rfl rfl rfl rfl rfl rfl rfl rfl rfl rfl ?_
 intro S H
 replace H : Hp S0 [] _ [(i8, .cells (c_Api_Msg y7)), (i3, .cells (c_Api_Element y2.1)), (i1, .cells z0_)] [] [] := H
 refine A_ <| J_ <| B_ <| wg H 0 rfl rfl rfl rfl ?_
 obtain ⟨y9, hy9, h⟩ := bindS h
 refine cl (.tup [(.str y9.1), (.int .i64 y9.2)]) [(.agg (c_Api_Msg y7))] rfl rfl rfl rfl (sv (s9 _ hy9)) <| us 5 rfl <| A_ <| B_ <| us 1 rfl <| w (.bool (y9.2 != 0)) rfl rfl <| w (.bool (y9.2 != 0)) rfl rfl ?_
 refine O_ 5 (SH H [(0, (.str a0)), (2, (.ptr i1 0)), (8, (.ptr i8 0)), (9, (.str y9.1)), (41, (.bool ((y9.2 != 0) || (y2.2.1 != (Str.len a0)))))]) ?_ ?_
 revert H
 cases hc10 : (y9.2 != 0)
 intro H
 refine us 5 rfl <| A_ ?_
 exact kf H
 intro H
 refine us 5 rfl <| A_ ?_
 exact kf H
 rintro σ S e ⟨hk, H, rfl⟩
 refine E_ hk <| w (.bool ((y9.2 != 0) || (y2.2.1 != (Str.len a0)))) rfl rfl ?_
 refine O_ 4 (SH H [(2, (.ptr i1 0)), (8, (.ptr i8 0)), (46, (.bool (((y9.2 != 0) || (y2.2.1 != (Str.len a0))) || (!(y9.1 == a0)))))]) ?_ ?_
 revert H
 cases hc11 : ((y9.2 != 0) || (y2.2.1 != (Str.len a0)))
 intro H
 refine us 4 rfl <| A_ ?_
 exact kf H
 intro H
 refine us 4 rfl <| A_ ?_
 exact kf H
 rintro σ S e ⟨hk, H, rfl⟩
 refine E_ hk <| A_ ?_
 rcases iteS h with ⟨hc15, h⟩ | ⟨hc15, h⟩
 refine G_ rfl hc15 <| B_ <| w (.agg z0_) rfl (nz rfl (stp_build (ti := ty28) rfl rfl rfl rfl rfl rfl)) <| us 1 rfl <| w (.agg [(.ifc 31 (.int .i64 14)), (.int .i64 0)]) rfl (nz rfl (stp_build (ti := ty98) rfl rfl rfl rfl rfl (fill_cons rfl rfl rfl rfl (C_ rfl) rfl rfl))) <| g_ rfl rfl rfl rfl rfl H ?_
 intro i14 S hi14 H
 refine us 1 rfl <| wos 3 H hi1 rfl rfl rfl rfl rfl rfl rfl rfl rfl rfl ?_
 intro S H
 replace H : Hp S0 [] _ [(i14, .cells [(.ifc 31 (.int .i64 14)), (.int .i64 0)]), (i8, .cells (c_Api_Msg y7)), (i3, .cells (c_Api_Element y2.1)), (i1, .cells z0_)] [] [] := H
 refine us 1 rfl <| A_ <| R_ <| I_ ?_
 have h := oi h; subst h
 refine e_ (vs := [(.agg z0_), (.ifc 96 (.ptr i14 0))]) (res_cell rfl (H.get 3 rfl) rfl (Y_ rfl res_nil)) rfl ?_
 exact ⟨rfl, _, rfl, H.sub (.cons_cons _ (.cons _ (.cons _ (.cons _ .slnil)))) .slnil .slnil⟩
 refine H_ rfl hc15 <| N_ <| D_ <| B_ <| wg H 0 rfl rfl rfl rfl <| wos 2 H hi1 rfl rfl rfl rfl rfl rfl rfl rfl rfl rfl ?_
 intro S H
 replace H : Hp S0 [] _ [(i8, .cells (c_Api_Msg y7)), (i3, .cells (c_Api_Element y2.1)), (i1, .cells (c_Api_Msg y7))] [] [] := H
 refine us 1 rfl <| A_ <| R_ ?_
 have h := oi h; subst h
 refine e_ (vs := [(.agg (c_Api_Msg y7)), .nili]) (res_cell rfl (H.get 2 rfl) rfl (Y_ rfl res_nil)) (Q_ rfl (Q_ rfl rfl)) ?_
 exact ⟨rfl, show PV.strip _ = _ from (by simp only [st2_nili, st2_ifc, st_tup, List.map_cons, List.map_nil, tupled, st2_agg, st1_int, st1_str, strip1_enc, st1_bool, e_Api_Msg])⟩
def F15 (k : Nat) (a0 : Str) : Option (Api_Msg × Int) :=
 Option.bind (F45 k a0) fun y2 =>
 match y2.2 with
 | .nil =>
 some (y2.1, 0)
 | .no en5 =>
 none
 | .at en5 ea6 =>
 some ((Api_Msg.mk 0 0 0 [] 0 [] 0 0 (Api_Filter.mk 0 [] [] none none) none none [] false false [] [] [] 0 []), en5)
theorem s15 : ∀ k : Nat, ∀ {a0 : Str} {r : Api_Msg × Int}, F15 k a0 = some r → Q 15 [(.str a0)] (.tup [(.agg (c_Api_Msg r.1)), (.int .i64 r.2)]) := by
 intro k a0 r h vs ha S
 unfold F15 at h
 refine l_ (pf := fn15) rfl rfl ha (C_ rfl) rfl (by simp [PV.clean, cleanL, clean_encSl clean_Api_Filter, clean_encSl clean_Api_Mod, clean_encSl clean_eS]) ?_
 refine WB.of (pf := fn15) rfl ?_
 have H := n_ []
 refine B_ <| d_ (ti := ty28) rfl rfl rfl rfl H ?_
 intro i1 S hi1 H
 refine us 1 rfl <| A_ <| B_ <| us 1 rfl ?_
 obtain ⟨y2, hy2, h⟩ := bindS h
 refine WO.callE (TE := 31) (TP := 96) (mk := fun v => .tup [(.agg (c_Api_Msg y2.1)), v]) rfl rfl rfl rfl H (s45 _ hy2 _) ?_ ?_ ?_
 intro hE; rw [hE] at h; dsimp only at h
 refine us 3 rfl <| d_ (ti := ty28) rfl rfl rfl rfl H ?_
 intro i3 S hi3 H
 refine wos 0 H hi3 rfl rfl rfl rfl rfl rfl rfl rfl rfl rfl ?_
 intro S H
 refine us 1 rfl <| A_ <| B_ <| d_ (ti := ty31) rfl rfl rfl rfl H ?_
 intro i4 S hi4 H
 refine A_ <| J_ <| B_ <| us 2 rfl <| cl (.bool false) [.nili, (.ifc 77 (.ptr i4 0))] rfl rfl rfl rfl (evw_asNil rfl _) <| A_ <| H_ rfl rfl <| N_ <| D_ <| B_ <| wg H 1 rfl rfl rfl rfl <| wos 2 H hi1 rfl rfl rfl rfl rfl rfl rfl rfl rfl rfl ?_
 intro S H
 replace H : Hp [] [] _ [(i4, .cells [(.int .i64 0)]), (i3, .cells (c_Api_Msg y2.1)), (i1, .cells (c_Api_Msg y2.1))] [] [] := H
 refine us 1 rfl <| A_ <| R_ ?_
 have h := oi h; subst h
 refine e_ (vs := [(.agg (c_Api_Msg y2.1)), (.int .i64 0)]) (res_cell rfl (H.get 2 rfl) rfl (Y_ rfl res_nil)) (Q_ rfl (Q_ rfl rfl)) ?_
 exact (by simp only [st_tup, List.map_cons, List.map_nil, tupled, st2_agg, st1_int, st1_str, strip1_enc, st1_bool, st2_int, e_Api_Msg, c_Api_Msg])
 intro en5 hE; rw [hE] at h; dsimp only at h
 cases h
 intro en5 ea6 hE i7 S hi7 H; rw [hE] at h; dsimp only at h
 refine us 3 rfl <| d_ (ti := ty28) rfl rfl rfl rfl H ?_
 intro i8 S hi8 H
 refine wos 0 H hi8 rfl rfl rfl rfl rfl rfl rfl rfl rfl rfl ?_
 intro S H
 refine us 1 rfl <| A_ <| B_ <| d_ (ti := ty31) rfl rfl rfl rfl H ?_
 intro i9 S hi9 H
 refine A_ <| J_ <| B_ <| us 2 rfl <| WO.callAs 2 0 (TE := 31) (TP := 96) (TT := 77) rfl rfl rfl rfl H rfl rfl rfl ?_
 intro S H
 refine A_ <| G_ rfl rfl <| J_ <| WC.drawC <| WK.step (v := .agg z0_) rfl (nz rfl (stp_build (ti := ty28) rfl rfl rfl rfl rfl rfl)) rfl rfl rfl rfl <| wkl H 0 rfl rfl rfl rfl ?_
 have Hh10 := H
 refine wks 3 H hi1 rfl rfl rfl rfl rfl rfl rfl rfl rfl rfl ?_
 intro S H
 replace H : Hp [] [] _ [(i9, .cells [(.int .i64 en5)]), (i8, .cells (c_Api_Msg y2.1)), (i7, .cells [(.ifc 31 (.int .i64 en5)), (.int .i64 ea6)]), (i1, .cells z0_)] [] [] := H
 refine ⟨(pend_cons (ld (H.get 0 rfl) rfl) pend_nil), ?_⟩
 refine WK.nil <| us 1 rfl <| A_ <| D_ <| R_ <| I_ ?_
 have h := oi h; subst h
 refine e_ (vs := [(.agg z0_), (.int .i64 en5)]) (res_cell rfl (H.get 3 rfl) rfl (Y_ rfl res_nil)) (Q_ rfl (Q_ rfl rfl)) ?_
 exact (by simp only [st_tup, List.map_cons, List.map_nil, tupled, st2_agg, st1_int, st1_str, st1_nils, encSl_none, st1_bool, st2_int, e_Api_Msg, c_Api_Msg])
end Go.Proofs.YtbinlabnilidiaaGreatDoor.M
