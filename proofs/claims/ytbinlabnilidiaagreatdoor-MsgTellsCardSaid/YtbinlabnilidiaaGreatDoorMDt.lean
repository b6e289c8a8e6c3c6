/- Part of the proof: the runs of functions on the abstract machine. -/
import Derived.Test.YtbinlabnilidiaaGreatDoorPamM3
import Derived.Test.YtbinlabnilidiaaGreatDoorFns
import Derived.Test.YtbinlabnilidiaaGreatDoorMDe
import Derived.Test.YtbinlabnilidiaaGreatDoorMDc
import Derived.Test.YtbinlabnilidiaaGreatDoorMDc1
import Derived.Test.YtbinlabnilidiaaGreatDoorMDr
import Derived.Test.YtbinlabnilidiaaGreatDoorMDr1
import Derived.Test.YtbinlabnilidiaaGreatDoorMDw
import Derived.Test.YtbinlabnilidiaaGreatDoorMDv
import Derived.Test.YtbinlabnilidiaaGreatDoorMDk
namespace Go.Proofs.YtbinlabnilidiaaGreatDoor.M
open Go Go.Pam Go.RowKit Go.WideShapes
set_option maxRecDepth 8000
set_option linter.unusedVariables false
set_option linter.unusedSimpArgs false

def F3 (k : Nat) (a0 : Api_Msg) (a1 : Api_Msg) : Option Bool :=
 Option.bind (F7 k ) fun y3 =>
 if !y3 then
 some false
 else
 Option.bind (F8 k a0) fun y5 =>
 Option.bind (if !y5 then
 some true
 else
 Option.bind (F8 k a1) fun y11 =>
 some (!y11)) fun y10 =>
 if y10 then
 some true
 else
 Option.bind (F9 k a0) fun y14 =>
 Option.bind (F10 k a0) fun y15 =>
 Option.bind (F11 k a0) fun y16 =>
 Option.bind (F12 k a0) fun y17 =>
 Option.bind (if ((y16 == y17) && (y14.1 == y15.1)) && (y14.2 == y15.2) then
 Option.bind (F13 k a0 a1) fun y24 =>
 Option.bind (F14 k a0 a1) fun y25 =>
 some (y24 == y25)
 else
 some false) fun y23 =>
 some y23
theorem s3 : ∀ k : Nat, ∀ {a0 : Api_Msg} {a1 : Api_Msg} {r : Bool}, F3 k a0 a1 = some r → Q 3 [(.agg (c_Api_Msg a0)), (.agg (c_Api_Msg a1))] (.bool r) := by
 intro k a0 a1 r h
 unfold F3 at h
 refine Qe.go (pf := fn3) rfl rfl (Nat.le_of_ble_eq_true rfl) (by simp [PV.clean, cleanL, clean_encSl clean_Api_Filter, clean_encSl clean_Api_Mod, clean_encSl clean_eS]) rfl rfl fun H => ?_
 refine WC.seqR <| WO.box' rfl rfl rfl rfl rfl H ?_
 intro i1 S hi1 H
 refine WO.box' rfl rfl rfl rfl rfl H ?_
 intro i2 S hi2 H
 refine us 1 rfl <| WO.nil <| WC.seq <| WC.seqR ?_
 obtain ⟨y3, hy3, h⟩ := bindS h
 refine cl (.bool y3) [] rfl rfl rfl rfl (s7 _ hy3 rfl) <| us 1 rfl <| WO.nil ?_
 rcases iteS h with ⟨hc28, h⟩ | ⟨hc28, h⟩
 refine WC.condT rfl hc28 <| WC.seqR <| us 1 rfl <| WO.nil <| WC.ret <| KX.seq_r ?_
 have h := oi h; subst h
 exact kr (.bool false) rfl rfl rfl
 refine WC.condF rfl hc28 <| WC.skip <| KX.seq_n <| WC.seq <| WC.seqR <| wg H 1 rfl rfl rfl rfl ?_
 obtain ⟨y5, hy5, h⟩ := bindS h
 refine cl (.bool y5) [(.agg (c_Api_Msg a0))] rfl rfl rfl rfl (sv (s8 _ hy5)) <| w (.bool (!y5)) rfl rfl <| w (.bool (!y5)) rfl rfl ?_
 obtain ⟨y10, hy10, hOy10⟩ := bindS h
 refine WO.split 4 (SJ [(2, (.ptr i1 0)), (3, (.ptr i2 0)), (18, (.bool y10))] [] [] [(i2, .cells (c_Api_Msg a1)), (i1, .cells (c_Api_Msg a0))] [] [] false) ?_ ?_
 replace h := hy10
 revert H
 cases hc12 : (!y5)
 intro H
 replace h := iteF h hc12
 refine WO.go0 rfl rfl <| wg H 0 rfl rfl rfl rfl <| WO.go0 rfl rfl ?_
 obtain ⟨y11, hy11, h⟩ := bindS h
 refine cl (.bool y11) [(.agg (c_Api_Msg a1))] rfl rfl rfl rfl (sv (s8 _ hy11)) <| us 2 rfl <| WO.nil ?_
 have h := oi h; subst h
 exact kh H
 intro H
 replace h := iteT h hc12
 refine us 4 rfl <| WO.nil ?_
 have h := oi h; subst h
 exact kh H
 rintro σ S e ⟨hk, H, rfl⟩
 replace h := hOy10
 refine WO.of_known hk <| WO.nil ?_
 rcases iteS h with ⟨hc27, h⟩ | ⟨hc27, h⟩
 refine WC.condT rfl hc27 <| WC.seqR <| us 1 rfl <| WO.nil <| WC.ret <| KX.seq_r ?_
 have h := oi h; subst h
 exact kr (.bool true) rfl rfl rfl
 refine WC.condF rfl hc27 <| WC.skip <| KX.seq_n <| WC.seqR <| wg H 1 rfl rfl rfl rfl ?_
 obtain ⟨y14, hy14, h⟩ := bindS h
 refine cl (.tup [(.str y14.1), (.int .i64 y14.2)]) [(.agg (c_Api_Msg a0))] rfl rfl rfl rfl (sv (s9 _ hy14)) <| us 5 rfl <| WO.nil <| WC.seqR <| wg H 1 rfl rfl rfl rfl ?_
 obtain ⟨y15, hy15, h⟩ := bindS h
 refine cl (.tup [(.str y15.1), (.int .i64 y15.2)]) [(.agg (c_Api_Msg a0))] rfl rfl rfl rfl (sv (s10 _ hy15)) <| us 5 rfl <| WO.nil <| WC.seq <| WC.draw <| WH.step (v := (.agg (c_Api_Msg a0))) rfl (nz rfl (stp_load rfl (H.get 1 rfl) rfl)) rfl rfl ?_
 obtain ⟨y16, hy16, h⟩ := bindS h
 refine WH.step (v := .bool y16) rfl (nz rfl (stp_call (vs := [(.agg (c_Api_Msg a0))]) rfl rfl (s11 _ hy16 (by simp only [st_agg, List.map_cons, List.map_nil, st1_int, st1_str, strip1_enc, st1_bool, tupled, e_Api_Msg]) _))) rfl rfl <| WH.step (v := (.agg (c_Api_Msg a0))) rfl (nz rfl (stp_load rfl (H.get 1 rfl) rfl)) rfl rfl ?_
 obtain ⟨y17, hy17, h⟩ := bindS h
 refine WH.step (v := .bool y17) rfl (nz rfl (stp_call (vs := [(.agg (c_Api_Msg a0))]) rfl rfl (s12 _ hy17 (by simp only [st_agg, List.map_cons, List.map_nil, st1_int, st1_str, strip1_enc, st1_bool, tupled, e_Api_Msg]) _))) rfl rfl <| wh (.bool (y16 == y17)) rfl rfl <| wh (.bool (y16 == y17)) rfl rfl ?_
 refine WH.split 4 (fun σ' => Known ([(2, (.ptr i1 0)), (3, (.ptr i2 0)), (6, (.int .i64 y14.2)), (8, (.int .i64 y15.2)), (38, (.bool ((y16 == y17) && (y14.1 == y15.1))))]) σ') ?_ ?_
 revert H
 cases hc18 : (y16 == y17)
 intro H
 refine WH.by rfl rfl rfl <| WH.by rfl rfl rfl <| WH.by rfl rfl rfl <| wh (.bool false) rfl rfl <| WH.nil ?_
 exact kn
 intro H
 refine WH.go0 rfl rfl <| wh (.str y14.1) rfl rfl <| WH.go0 rfl rfl <| wh (.str y15.1) rfl rfl <| WH.go0 rfl rfl <| wh (.bool (y14.1 == y15.1)) rfl rfl <| wh (.bool (y14.1 == y15.1)) rfl rfl <| WH.nil ?_
 exact kn
 intro σ hk
 refine WH.of_known hk <| WH.step (v := (.bool ((y16 == y17) && (y14.1 == y15.1)))) rfl (nz rfl rfl) rfl rfl ?_
 refine WH.split 4 (fun σ' => Known ([(2, (.ptr i1 0)), (3, (.ptr i2 0)), (43, (.bool (((y16 == y17) && (y14.1 == y15.1)) && (y14.2 == y15.2))))]) σ') ?_ ?_
 revert H
 cases hc19 : ((y16 == y17) && (y14.1 == y15.1))
 intro H
 refine WH.by rfl rfl rfl <| WH.by rfl rfl rfl <| WH.by rfl rfl rfl <| wh (.bool false) rfl rfl <| WH.nil ?_
 exact kn
 intro H
 refine WH.go0 rfl rfl <| wh (.int .i64 y14.2) rfl rfl <| WH.go0 rfl rfl <| wh (.int .i64 y15.2) rfl rfl <| WH.go0 rfl rfl <| wh (.bool (y14.2 == y15.2)) rfl rfl <| wh (.bool (y14.2 == y15.2)) rfl rfl <| WH.nil ?_
 exact kn
 intro σ hk
 refine WH.of_known hk <| WH.step (v := (.bool (((y16 == y17) && (y14.1 == y15.1)) && (y14.2 == y15.2)))) rfl (nz rfl rfl) rfl rfl ?_
 obtain ⟨y23, hy23, hOy23⟩ := bindS h
 refine WD.split 3 (SJ [(52, (.bool y23))] [] [] [(i2, .cells (c_Api_Msg a1)), (i1, .cells (c_Api_Msg a0))] [] [] false) ?_ ?_
 replace h := hy23
 revert H
 cases hc26 : (((y16 == y17) && (y14.1 == y15.1)) && (y14.2 == y15.2))
 intro H
 replace h := iteF h hc26
 refine WH.by rfl rfl rfl <| WH.by rfl rfl rfl <| WH.by rfl rfl rfl <| WH.by rfl rfl rfl <| WH.by rfl rfl rfl <| WH.nil <| us 3 rfl <| WO.nil ?_
 have h := oi h; subst h
 exact kh H
 intro H
 replace h := iteT h hc26
 refine WH.go0 rfl rfl <| WH.step (v := (.agg (c_Api_Msg a0))) rfl (nz rfl (stp_load rfl (H.get 1 rfl) rfl)) rfl rfl <| WH.go0 rfl rfl <| WH.step (v := (.agg (c_Api_Msg a1))) rfl (nz rfl (stp_load rfl (H.get 0 rfl) rfl)) rfl rfl <| WH.go0 rfl rfl ?_
 obtain ⟨y24, hy24, h⟩ := bindS h
 refine WH.step (v := .bool y24) rfl (nz rfl (stp_call (vs := [(.agg (c_Api_Msg a0)), (.agg (c_Api_Msg a1))]) rfl rfl (s13 _ hy24 (by simp only [st_agg, List.map_cons, List.map_nil, st1_int, st1_str, strip1_enc, st1_bool, tupled, e_Api_Msg]) _))) rfl rfl <| WH.go0 rfl rfl <| WH.step (v := (.agg (c_Api_Msg a0))) rfl (nz rfl (stp_load rfl (H.get 1 rfl) rfl)) rfl rfl <| WH.go0 rfl rfl <| WH.step (v := (.agg (c_Api_Msg a1))) rfl (nz rfl (stp_load rfl (H.get 0 rfl) rfl)) rfl rfl <| WH.nil <| WO.go0 rfl rfl ?_
 obtain ⟨y25, hy25, h⟩ := bindS h
 refine cl (.bool y25) [(.agg (c_Api_Msg a0)), (.agg (c_Api_Msg a1))] rfl rfl rfl rfl (sv (s14 _ hy25)) <| us 2 rfl <| WO.nil ?_
 have h := oi h; subst h
 exact kh H
 rintro σ S e ⟨hk, H, rfl⟩
 replace h := hOy23
 refine WO.of_known hk <| us 1 rfl <| WO.nil <| KX.seq_n <| WC.ret ?_
 have h := oi h; subst h
 exact kr (.bool y23) rfl rfl rfl
end Go.Proofs.YtbinlabnilidiaaGreatDoor.M
