/- Part of the proof: the runs of functions on the abstract machine. -/
import Derived.Test.YtbinlabnilidiaaGreatDoorPamM3
import Derived.Test.YtbinlabnilidiaaGreatDoorFns
import Derived.Test.YtbinlabnilidiaaGreatDoorMDe
import Derived.Test.YtbinlabnilidiaaGreatDoorMDc
import Derived.Test.YtbinlabnilidiaaGreatDoorMDc1
namespace Go.Proofs.YtbinlabnilidiaaGreatDoor.M
open Go Go.Pam Go.RowKit Go.WideShapes
set_option maxRecDepth 8000
set_option linter.unusedVariables false
set_option linter.unusedSimpArgs false

def F9 (k : Nat) (a0 : Api_Msg) : Option (Str × Int) :=
 Option.bind (F11 k a0) fun y2 =>
 if !y2 then
 some ([], 14)
 else
 none
theorem s9 : ∀ k : Nat, ∀ {a0 : Api_Msg} {r : Str × Int}, F9 k a0 = some r → ∀ {vs : List PV}, vs.map PV.strip = [(.agg (c_Api_Msg a0))] → ∀ S : List SObj, evw env 9 vs S = some ((.tup [(.str r.1), (.int .i64 r.2)]), S, false) := by
 intro k a0 r h vs ha S
 unfold F9 at h
 refine evw_pureW (pf := fn9) rfl rfl ha (Nat.le_of_ble_eq_true rfl) (by simp [PV.clean, cleanL, clean_encSl clean_Api_Filter, clean_encSl clean_Api_Mod, clean_encSl clean_eS]) rfl ?_
 refine WB.of (pf := fn9) rfl ?_
 have H := Hp.start []
 refine WC.seqR <| WO.box' rfl rfl rfl rfl rfl H ?_
 intro i1 S hi1 H
 refine w (.str []) rfl rfl <| w (.int .i64 0) rfl rfl <| WO.nil <| WC.seq <| WC.seqR <| wg H 0 rfl rfl rfl rfl ?_
 obtain ⟨y2, hy2, h⟩ := bindS h
 refine w (.bool y2) rfl (nz rfl (stp_call (vs := [(.agg (c_Api_Msg a0))]) rfl rfl (s11 _ hy2 (by simp only [st_agg, List.map_cons, List.map_nil, st1_int, st1_str, strip1_enc, st1_bool, tupled, e_Api_Msg]) _))) <| w (.bool (!y2)) rfl rfl <| WO.nil ?_
 rcases iteS h with ⟨hc4, h⟩ | ⟨hc4, h⟩
 ·refine WC.condT rfl hc4 <| WC.seqR <| w (.str []) rfl rfl <| w (.int .i64 14) rfl rfl <| WO.nil <| WC.ret <| KX.seq_r ?_
  obtain rfl := Option.some.inj h
  refine KB.ret (vs := [(.str []), (.int .i64 14)]) (res_tmp rfl (res_tmp rfl res_nil)) (fl_cons' rfl (fl_cons' rfl rfl)) ?_
  exact rfl
 ·refine WC.condF rfl hc4 <| WC.skip <| KX.seq_n <| WC.seqR <| w (.ptr i1 1) rfl rfl <| wg H 0 rfl rfl rfl rfl <| w (.ptr i1 2) rfl rfl <| wg H 0 rfl rfl rfl rfl ?_
  cases h
end Go.Proofs.YtbinlabnilidiaaGreatDoor.M
