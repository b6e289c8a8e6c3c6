/- Part of the proof: the runs of functions on the abstract machine. -/
import Derived.Test.YtbinlabnilidiaaDoorPamM4
import Derived.Test.YtbinlabnilidiaaDoorFns
import Derived.Test.YtbinlabnilidiaaDoorMDe
import Derived.Test.YtbinlabnilidiaaDoorMDc
import Derived.Test.YtbinlabnilidiaaDoorMDc1
import Derived.Test.YtbinlabnilidiaaDoorMDw
import Derived.Test.YtbinlabnilidiaaDoorMDd
namespace Go.Proofs.YtbinlabnilidiaaDoor.M
open Go Go.Pam Go.RowKit Go.WideShapes
set_option maxRecDepth 8000
set_option linter.unusedVariables false
set_option linter.unusedSimpArgs false

def F18 (k : Nat) (a0 : Str) : Option (Api_Msg × Er) :=
 Option.bind (F39 k a0) fun y2 =>
 if y2.2.2.2 != 0 then
 some ((Api_Msg.mk 0 0 0 [] 0 [] 0 0 (Api_Filter.mk 0 [] [] none none) none none [] false false [] [] [] 0 []), (Er.at y2.2.2.2 y2.2.2.1))
 else
 Option.bind (F40 k y2.1) fun y7 =>
 Option.bind (F6 k y7) fun y9 =>
 if ((y9.2 != 0) || (y2.2.1 != (Str.len a0))) || (!(y9.1 == a0)) then
 some ((Api_Msg.mk 0 0 0 [] 0 [] 0 0 (Api_Filter.mk 0 [] [] none none) none none [] false false [] [] [] 0 []), (Er.at 14 0))
 else
 some (y7, Er.nil)
theorem s18 : ∀ k : Nat, ∀ {a0 : Str} {r : Api_Msg × Er}, F18 k a0 = some r → ∀ S : List SObj, ∃ v S', evw env 18 [(.str a0)] S = some (v, S', false) ∧ ErA 32 80 (fun v => .tup [(.agg (c_Api_Msg r.1)), v]) S r.2 v S' := by
 intro k a0 r h S
 unfold F18 at h
 refine evw_errW (TE := 32) (TP := 80) (mk := fun v => .tup [(.agg (c_Api_Msg r.1)), v]) (pf := fn18) rfl rfl rfl (Nat.le_of_ble_eq_true rfl) rfl (by simp [PV.strip, PV.strip2, PV.strip1, PV.clean, cleanL, clean_encSl clean_Api_Filter, clean_encSl clean_Api_Mod, clean_encSl clean_eS]) (fun _ => by simp [PV.strip, PV.strip2, PV.strip1, PV.clean, cleanL, clean_encSl clean_Api_Filter, clean_encSl clean_Api_Mod, clean_encSl clean_eS]) (fun _ => by simp [PV.strip, PV.strip2, PV.strip1, PV.clean, cleanL, clean_encSl clean_Api_Filter, clean_encSl clean_Api_Mod, clean_encSl clean_eS]) ?_ S
 intro S0
 refine WB.of (pf := fn18) rfl ?_
 have H := Hp.start S0
 refine WC.seqR <| WO.alloc' (ti := ty31) rfl rfl rfl rfl H ?_
 intro i1 S hi1 H
 refine us 1 rfl <| WO.nil <| WC.seqR <| us 1 rfl ?_
 obtain ⟨y2, hy2, h⟩ := bindS h
 refine cl (.tup [(.agg (c_Api_Element y2.1)), (.int .i64 y2.2.1), (.int .i64 y2.2.2.1), (.int .i64 y2.2.2.2)]) [(.str a0)] rfl rfl rfl rfl (s39 _ hy2 rfl) <| us 5 rfl <| WO.alloc' (ti := ty44) rfl rfl rfl rfl H ?_
 intro i3 S hi3 H
 refine wos 0 H hi3 rfl rfl rfl rfl rfl rfl rfl rfl rfl rfl ?_
 intro S H
 replace H : Hp S0 [] _ [(i3, .cells (c_Api_Element y2.1)), (i1, .cells z0_)] [] [] := H
 refine us 3 rfl <| WO.nil <| WC.seq <| WC.seqR <| us 2 rfl <| WO.nil ?_
 rcases iteS h with ⟨hc16, h⟩ | ⟨hc16, h⟩
 refine WC.condT rfl hc16 <| WC.seqR <| w (.agg z0_) rfl (nz rfl (stp_build (ti := ty31) rfl rfl rfl rfl rfl rfl)) <| us 3 rfl <| w (.agg [(.ifc 32 (.int .i64 y2.2.2.2)), (.int .i64 y2.2.2.1)]) rfl (nz rfl (stp_build (ti := ty82) rfl rfl rfl rfl rfl (fill_cons rfl rfl rfl rfl (Nat.le_of_ble_eq_true rfl) rfl (fill_cons rfl rfl rfl rfl (Nat.le_of_ble_eq_true rfl) rfl rfl)))) <| WO.box' rfl rfl rfl rfl rfl H ?_
 intro i6 S hi6 H
 refine us 1 rfl <| wos 2 H hi1 rfl rfl rfl rfl rfl rfl rfl rfl rfl rfl ?_
 intro S H
 replace H : Hp S0 [] _ [(i6, .cells [(.ifc 32 (.int .i64 y2.2.2.2)), (.int .i64 y2.2.2.1)]), (i3, .cells (c_Api_Element y2.1)), (i1, .cells z0_)] [] [] := H
 refine us 1 rfl <| WO.nil <| WC.ret <| KX.seq_r ?_
 have h := oi h; subst h
 refine KB.ret (vs := [(.agg z0_), (.ifc 80 (.ptr i6 0))]) (res_cell rfl (H.get 2 rfl) rfl (res_tmp rfl res_nil)) rfl ?_
 exact ⟨rfl, _, rfl, H.sub (.cons_cons _ (.cons _ (.cons _ .slnil))) .slnil .slnil⟩
 refine WC.condF rfl hc16 <| WC.skip <| KX.seq_n <| WC.seqR <| wg H 0 rfl rfl rfl rfl ?_
 obtain ⟨y7, hy7, h⟩ := bindS h
 refine cl (.agg (c_Api_Msg y7)) [(.agg (c_Api_Element y2.1))] rfl rfl rfl rfl (sv (s40 _ hy7)) <| WO.alloc' (ti := ty31) rfl rfl rfl rfl H ?_
 intro i8 S hi8 H
 refine wos 0 H hi8 rfl rfl rfl rfl rfl rfl rfl rfl rfl rfl ?_
 intro S H
 replace H : Hp S0 [] _ [(i8, .cells (c_Api_Msg y7)), (i3, .cells (c_Api_Element y2.1)), (i1, .cells z0_)] [] [] := H
 refine WO.nil <| WC.seq <| WC.seqR <| wg H 0 rfl rfl rfl rfl ?_
 obtain ⟨y9, hy9, h⟩ := bindS h
 refine cl (.tup [(.str y9.1), (.int .i64 y9.2)]) [(.agg (c_Api_Msg y7))] rfl rfl rfl rfl (sv (s6 _ hy9)) <| us 5 rfl <| WO.nil <| WC.seqR <| us 1 rfl <| w (.bool (y9.2 != 0)) rfl rfl <| w (.bool (y9.2 != 0)) rfl rfl ?_
 refine WO.split 5 (SH H [(0, (.str a0)), (2, (.ptr i1 0)), (8, (.ptr i8 0)), (9, (.str y9.1)), (41, (.bool ((y9.2 != 0) || (y2.2.1 != (Str.len a0)))))]) ?_ ?_
 revert H
 cases hc10 : (y9.2 != 0)
 intro H
 refine us 5 rfl <| WO.nil ?_
 exact kf H
 intro H
 refine us 5 rfl <| WO.nil ?_
 exact kf H
 rintro σ S e ⟨hk, H, rfl⟩
 refine WO.of_known hk <| w (.bool ((y9.2 != 0) || (y2.2.1 != (Str.len a0)))) rfl rfl ?_
 refine WO.split 4 (SH H [(2, (.ptr i1 0)), (8, (.ptr i8 0)), (46, (.bool (((y9.2 != 0) || (y2.2.1 != (Str.len a0))) || (!(y9.1 == a0)))))]) ?_ ?_
 revert H
 cases hc11 : ((y9.2 != 0) || (y2.2.1 != (Str.len a0)))
 intro H
 refine us 4 rfl <| WO.nil ?_
 exact kf H
 intro H
 refine us 4 rfl <| WO.nil ?_
 exact kf H
 rintro σ S e ⟨hk, H, rfl⟩
 refine WO.of_known hk <| WO.nil ?_
 rcases iteS h with ⟨hc15, h⟩ | ⟨hc15, h⟩
 refine WC.condT rfl hc15 <| WC.seqR <| w (.agg z0_) rfl (nz rfl (stp_build (ti := ty31) rfl rfl rfl rfl rfl rfl)) <| us 1 rfl <| w (.agg [(.ifc 32 (.int .i64 14)), (.int .i64 0)]) rfl (nz rfl (stp_build (ti := ty82) rfl rfl rfl rfl rfl (fill_cons rfl rfl rfl rfl (Nat.le_of_ble_eq_true rfl) rfl rfl))) <| WO.box' rfl rfl rfl rfl rfl H ?_
 intro i14 S hi14 H
 refine us 1 rfl <| wos 3 H hi1 rfl rfl rfl rfl rfl rfl rfl rfl rfl rfl ?_
 intro S H
 replace H : Hp S0 [] _ [(i14, .cells [(.ifc 32 (.int .i64 14)), (.int .i64 0)]), (i8, .cells (c_Api_Msg y7)), (i3, .cells (c_Api_Element y2.1)), (i1, .cells z0_)] [] [] := H
 refine us 1 rfl <| WO.nil <| WC.ret <| KX.seq_r ?_
 have h := oi h; subst h
 refine KB.ret (vs := [(.agg z0_), (.ifc 80 (.ptr i14 0))]) (res_cell rfl (H.get 3 rfl) rfl (res_tmp rfl res_nil)) rfl ?_
 exact ⟨rfl, _, rfl, H.sub (.cons_cons _ (.cons _ (.cons _ (.cons _ .slnil)))) .slnil .slnil⟩
 refine WC.condF rfl hc15 <| WC.skip <| KX.seq_n <| WC.seqR <| wg H 0 rfl rfl rfl rfl <| wos 2 H hi1 rfl rfl rfl rfl rfl rfl rfl rfl rfl rfl ?_
 intro S H
 replace H : Hp S0 [] _ [(i8, .cells (c_Api_Msg y7)), (i3, .cells (c_Api_Element y2.1)), (i1, .cells (c_Api_Msg y7))] [] [] := H
 refine us 1 rfl <| WO.nil <| WC.ret ?_
 have h := oi h; subst h
 refine KB.ret (vs := [(.agg (c_Api_Msg y7)), .nili]) (res_cell rfl (H.get 2 rfl) rfl (res_tmp rfl res_nil)) (fl_cons' rfl (fl_cons' rfl rfl)) ?_
 exact ⟨rfl, show PV.strip _ = _ from (by simp only [st2_nili, st2_ifc, st_tup, List.map_cons, List.map_nil, tupled, st2_agg, st1_int, st1_str, strip1_enc, st1_bool, e_Api_Msg])⟩
def F7 (k : Nat) (a0 : Str) : Option (Api_Msg × Int) :=
 Option.bind (F18 k a0) fun y2 =>
 match y2.2 with
 | .nil =>
 some (y2.1, 0)
 | .no en5 =>
 none
 | .at en5 ea6 =>
 some ((Api_Msg.mk 0 0 0 [] 0 [] 0 0 (Api_Filter.mk 0 [] [] none none) none none [] false false [] [] [] 0 []), en5)
theorem s7 : ∀ k : Nat, ∀ {a0 : Str} {r : Api_Msg × Int}, F7 k a0 = some r → Q 7 [(.str a0)] (.tup [(.agg (c_Api_Msg r.1)), (.int .i64 r.2)]) := by
 intro k a0 r h vs ha S
 unfold F7 at h
 refine evw_pureW (pf := fn7) rfl rfl ha (Nat.le_of_ble_eq_true rfl) rfl (by simp [PV.clean, cleanL, clean_encSl clean_Api_Filter, clean_encSl clean_Api_Mod, clean_encSl clean_eS]) ?_
 refine WB.of (pf := fn7) rfl ?_
 have H := Hp.start []
 refine WC.seqR <| WO.alloc' (ti := ty31) rfl rfl rfl rfl H ?_
 intro i1 S hi1 H
 refine us 1 rfl <| WO.nil <| WC.seqR <| us 1 rfl ?_
 obtain ⟨y2, hy2, h⟩ := bindS h
 refine WO.callE (TE := 32) (TP := 80) (mk := fun v => .tup [(.agg (c_Api_Msg y2.1)), v]) rfl rfl rfl rfl H (s18 _ hy2 _) ?_ ?_ ?_
 intro hE; rw [hE] at h; dsimp only at h
 refine us 3 rfl <| WO.alloc' (ti := ty31) rfl rfl rfl rfl H ?_
 intro i3 S hi3 H
 refine wos 0 H hi3 rfl rfl rfl rfl rfl rfl rfl rfl rfl rfl ?_
 intro S H
 refine us 1 rfl <| WO.nil <| WC.seqR <| WO.alloc' (ti := ty32) rfl rfl rfl rfl H ?_
 intro i4 S hi4 H
 refine WO.nil <| WC.seq <| WC.seqR <| us 2 rfl <| cl (.bool false) [.nili, (.ifc 56 (.ptr i4 0))] rfl rfl rfl rfl (evw_asNil rfl _) <| WO.nil <| WC.condF rfl rfl <| WC.skip <| KX.seq_n <| WC.seqR <| wg H 1 rfl rfl rfl rfl <| wos 2 H hi1 rfl rfl rfl rfl rfl rfl rfl rfl rfl rfl ?_
 intro S H
 replace H : Hp [] [] _ [(i4, .cells [(.int .i64 0)]), (i3, .cells (c_Api_Msg y2.1)), (i1, .cells (c_Api_Msg y2.1))] [] [] := H
 refine us 1 rfl <| WO.nil <| WC.ret ?_
 have h := oi h; subst h
 refine KB.ret (vs := [(.agg (c_Api_Msg y2.1)), (.int .i64 0)]) (res_cell rfl (H.get 2 rfl) rfl (res_tmp rfl res_nil)) (fl_cons' rfl (fl_cons' rfl rfl)) ?_
 exact (by simp only [st_tup, List.map_cons, List.map_nil, tupled, st2_agg, st1_int, st1_str, strip1_enc, st1_bool, st2_int, e_Api_Msg, c_Api_Msg])
 intro en5 hE; rw [hE] at h; dsimp only at h
 cases h
 intro en5 ea6 hE i7 S hi7 H; rw [hE] at h; dsimp only at h
 refine us 3 rfl <| WO.alloc' (ti := ty31) rfl rfl rfl rfl H ?_
 intro i8 S hi8 H
 refine wos 0 H hi8 rfl rfl rfl rfl rfl rfl rfl rfl rfl rfl ?_
 intro S H
 refine us 1 rfl <| WO.nil <| WC.seqR <| WO.alloc' (ti := ty32) rfl rfl rfl rfl H ?_
 intro i9 S hi9 H
 refine WO.nil <| WC.seq <| WC.seqR <| us 2 rfl <| WO.callAs 2 0 (TE := 32) (TP := 80) (TT := 56) rfl rfl rfl rfl H rfl rfl rfl ?_
 intro S H
 refine WO.nil <| WC.condT rfl rfl <| WC.seq <| WC.drawC <| WK.step (v := .agg z0_) rfl (nz rfl (stp_build (ti := ty31) rfl rfl rfl rfl rfl rfl)) rfl rfl rfl rfl <| wkl H 0 rfl rfl rfl rfl ?_
 have Hh10 := H
 refine wks 3 H hi1 rfl rfl rfl rfl rfl rfl rfl rfl rfl rfl ?_
 intro S H
 replace H : Hp [] [] _ [(i9, .cells [(.int .i64 en5)]), (i8, .cells (c_Api_Msg y2.1)), (i7, .cells [(.ifc 32 (.int .i64 en5)), (.int .i64 ea6)]), (i1, .cells z0_)] [] [] := H
 refine ⟨(pend_cons (ld (H.get 0 rfl) rfl) pend_nil), ?_⟩
 refine WK.nil <| us 1 rfl <| WO.nil <| KX.seq_n <| WC.ret <| KX.seq_r ?_
 have h := oi h; subst h
 refine KB.ret (vs := [(.agg z0_), (.int .i64 en5)]) (res_cell rfl (H.get 3 rfl) rfl (res_tmp rfl res_nil)) (fl_cons' rfl (fl_cons' rfl rfl)) ?_
 exact (by simp only [st_tup, List.map_cons, List.map_nil, tupled, st2_agg, st1_int, st1_str, st1_nils, encSl_none, st1_bool, st2_int, e_Api_Msg, c_Api_Msg])
end Go.Proofs.YtbinlabnilidiaaDoor.M
