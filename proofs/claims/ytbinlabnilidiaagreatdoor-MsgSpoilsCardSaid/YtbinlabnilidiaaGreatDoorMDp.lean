/- Part of the proof: the runs of functions on the abstract machine. -/
import Derived.Test.YtbinlabnilidiaaGreatDoorPamM3
import Derived.Test.YtbinlabnilidiaaGreatDoorFns
import Derived.Test.YtbinlabnilidiaaGreatDoorMDe
import Derived.Test.YtbinlabnilidiaaGreatDoorMDc
import Derived.Test.YtbinlabnilidiaaGreatDoorMDc1
import Derived.Test.YtbinlabnilidiaaGreatDoorMDw
import Derived.Test.YtbinlabnilidiaaGreatDoorMDk
namespace Go.Proofs.YtbinlabnilidiaaGreatDoor.M
open Go Go.Pam Go.RowKit Go.WideShapes
set_option maxRecDepth 8000
set_option linter.unusedVariables false
set_option linter.unusedSimpArgs false

def F6 (k : Nat) (a0 : Api_Msg) (a1 : Int) : Option Bool :=
 Option.bind (F7 k ) fun y2 =>
 if !y2 then
 some false
 else
 Option.bind (F8 k a0) fun y4 =>
 Option.bind (if !y4 then
 some true
 else
 Option.bind (F11 k a0) fun y10 =>
 some (!y10)) fun y9 =>
 if y9 then
 some true
 else
 Option.bind (rem? a1 6) fun z14 =>
 Option.bind (if z14 == 0 then
 some (Api_Msg.mk (-1) a0.Op a0.Of a0.DN a0.Version a0.Pass a0.Scope a0.Size a0.Filter a0.Wants a0.Mods a0.RDN a0.DelOld a0.HasSup a0.Sup a0.Attr a0.Value a0.Code a0.Matched)
 else
 Option.bind (if z14 == 1 then
 some (Api_Msg.mk a0.ID 11 a0.Of a0.DN a0.Version a0.Pass a0.Scope a0.Size a0.Filter a0.Wants a0.Mods a0.RDN a0.DelOld a0.HasSup a0.Sup a0.Attr a0.Value a0.Code a0.Matched)
 else
 Option.bind (if z14 == 2 then
 some (Api_Msg.mk a0.ID a0.Op a0.Of a0.DN (ad .i64 a0.Version 128) a0.Pass a0.Scope a0.Size a0.Filter a0.Wants a0.Mods a0.RDN a0.DelOld a0.HasSup a0.Sup a0.Attr a0.Value a0.Code a0.Matched)
 else
 Option.bind (if z14 == 3 then
 some (Api_Msg.mk a0.ID a0.Op a0.Of a0.DN a0.Version a0.Pass 3 a0.Size a0.Filter a0.Wants a0.Mods a0.RDN a0.DelOld a0.HasSup a0.Sup a0.Attr a0.Value a0.Code a0.Matched)
 else
 Option.bind (if z14 == 4 then
 some (Api_Msg.mk a0.ID a0.Op a0.Of a0.DN a0.Version a0.Pass a0.Scope a0.Size a0.Filter a0.Wants a0.Mods a0.RDN a0.DelOld a0.HasSup a0.Sup a0.Attr a0.Value (ad .i64 a0.Code 128) a0.Matched)
 else
 some (Api_Msg.mk a0.ID a0.Op a0.Of a0.DN a0.Version a0.Pass a0.Scope (-1) a0.Filter a0.Wants a0.Mods a0.RDN a0.DelOld a0.HasSup a0.Sup a0.Attr a0.Value a0.Code a0.Matched)) fun y977 =>
 some y977) fun y974 =>
 some y974) fun y963 =>
 some y963) fun y928 =>
 some y928) fun y821 =>
 Option.bind (F9 k y821) fun y983 =>
 Option.bind (F11 k y821) fun y984 =>
 Option.bind (if (!y984) && (y983.2 == 14) then
 Option.bind (F13 k a0 y821) fun y991 =>
 some (!y991)
 else
 some false) fun y990 =>
 Option.bind (if y990 then
 Option.bind (F11 k a0) fun y998 =>
 some y998
 else
 some false) fun y997 =>
 some y997
theorem s6 : ∀ k : Nat, ∀ {a0 : Api_Msg} {a1 : Int} {r : Bool}, F6 k a0 a1 = some r → ∀ {vs : List PV}, vs.map PV.strip = [(.agg (c_Api_Msg a0)), (.int .u8 a1)] → ∀ S : List SObj, evw env 6 vs S = some ((.bool r), S, false) := by
 intro k a0 a1 r h vs ha S
 unfold F6 at h
 refine evw_pureW (pf := fn6) rfl rfl ha (Nat.le_of_ble_eq_true rfl) (by simp [PV.clean, cleanL, clean_encSl clean_Api_Filter, clean_encSl clean_Api_Mod, clean_encSl clean_eS]) rfl ?_
 refine WB.of (pf := fn6) rfl ?_
 have H := Hp.start []
 refine WC.seqR <| WO.box' rfl rfl rfl rfl rfl H ?_
 intro i1 S hi1 H
 refine w (.bool false) rfl rfl <| WO.nil <| WC.seq <| WC.seqR ?_
 obtain ⟨y2, hy2, h⟩ := bindS h
 refine w (.bool y2) rfl (nz rfl (stp_call (vs := []) rfl rfl (s7 _ hy2 rfl _))) <| w (.bool (!y2)) rfl rfl <| WO.nil ?_
 rcases iteS h with ⟨hc1001, h⟩ | ⟨hc1001, h⟩
 ·refine WC.condT rfl hc1001 <| WC.seqR <| w (.bool false) rfl rfl <| WO.nil <| WC.ret <| KX.seq_r ?_
  obtain rfl := Option.some.inj h
  refine KB.ret (vs := [(.bool false)]) (res_tmp rfl res_nil) (fl_cons' rfl rfl) ?_
  exact rfl
 ·refine WC.condF rfl hc1001 <| WC.skip <| KX.seq_n <| WC.seq <| WC.seqR <| wg H 0 rfl rfl rfl rfl ?_
  obtain ⟨y4, hy4, h⟩ := bindS h
  refine w (.bool y4) rfl (nz rfl (stp_call (vs := [(.agg (c_Api_Msg a0))]) rfl rfl (s8 _ hy4 (by simp only [st_agg, List.map_cons, List.map_nil, st1_int, st1_str, strip1_enc, st1_bool, tupled, e_Api_Msg]) _))) <| w (.bool (!y4)) rfl rfl <| w (.bool (!y4)) rfl rfl ?_
  obtain ⟨y9, hy9, hOy9⟩ := bindS h
  refine WO.split 4 (SJ [(1, (.int .u8 a1)), (2, (.ptr i1 0)), (17, (.bool y9))] [] [] [(i1, .cells (c_Api_Msg a0))] [] [] false) ?_ ?_
  ·replace h := hy9
   revert H
   cases hc11 : (!y4)
   ·intro H
    replace h := iteF h hc11
    refine WO.go0 rfl rfl <| wg H 0 rfl rfl rfl rfl <| WO.go0 rfl rfl ?_
    obtain ⟨y10, hy10, h⟩ := bindS h
    refine w (.bool y10) rfl (nz rfl (stp_call (vs := [(.agg (c_Api_Msg a0))]) rfl rfl (s11 _ hy10 (by simp only [st_agg, List.map_cons, List.map_nil, st1_int, st1_str, strip1_enc, st1_bool, tupled, e_Api_Msg]) _))) <| WO.go0 rfl rfl <| w (.bool (!y10)) rfl rfl <| w (.bool (!y10)) rfl rfl <| WO.nil ?_
    obtain rfl := Option.some.inj h
    exact ⟨kn, (hs H), rfl⟩
   ·intro H
    replace h := iteT h hc11
    refine WO.by rfl rfl rfl <| WO.by rfl rfl rfl <| WO.by rfl rfl rfl <| w (.bool true) rfl rfl <| WO.nil ?_
    obtain rfl := Option.some.inj h
    exact ⟨kn, (hs H), rfl⟩
  ·rintro σ S e ⟨hk, H, rfl⟩
   replace h := hOy9
   refine WO.of_known hk <| WO.nil ?_
   rcases iteS h with ⟨hc1000, h⟩ | ⟨hc1000, h⟩
   ·refine WC.condT rfl hc1000 <| WC.seqR <| w (.bool true) rfl rfl <| WO.nil <| WC.ret <| KX.seq_r ?_
    obtain rfl := Option.some.inj h
    refine KB.ret (vs := [(.bool true)]) (res_tmp rfl res_nil) (fl_cons' rfl rfl) ?_
    exact rfl
   ·refine WC.condF rfl hc1000 <| WC.skip <| KX.seq_n <| WC.seqR <| wg H 0 rfl rfl rfl rfl <| WO.alloc' (ti := ty28) rfl rfl rfl rfl H ?_
    intro i13 S hi13 H
    refine WO.store 0 rfl rfl H rfl rfl rfl rfl rfl rfl rfl (Nat.le_of_ble_eq_true rfl) rfl (own_e hi13) ?_
    intro S H
    replace H : Hp [] [] _ [(i13, .cells (c_Api_Msg a0)), (i1, .cells (c_Api_Msg a0))] [] [] := H
    refine WO.nil <| WC.seq <| WC.seqR <| w (.int .u8 a1) rfl rfl ?_
    obtain ⟨z14, hz14, h⟩ := bindS h
    refine w (.int .u8 z14) rfl (nz rfl (stp_rem rfl rfl hz14)) <| WO.nil <| WC.block <| WC.seqR <| w (.bool (z14 == 0)) rfl rfl <| w (.bool (z14 == 0)) rfl rfl <| WO.nil ?_
    obtain ⟨y821, hy821, hOy821⟩ := bindS h
    refine WC.join (SJ [(2, (.ptr i1 0)), (5, (.ptr i13 0))] [] [] [(i13, .cells (c_Api_Msg y821)), (i1, .cells (c_Api_Msg a0))] [] [] false) ?_ ?_
    ·replace h := hy821
     rcases iteS h with ⟨hc982, h⟩ | ⟨hc982, h⟩
     ·refine WC.condT rfl hc982 <| WC.region <| w (.ptr i13 0) rfl rfl <| WO.store 0 rfl rfl H rfl rfl rfl rfl rfl rfl rfl (Nat.le_of_ble_eq_true rfl) rfl (own_e hi13) ?_
      intro S H
      replace H : Hp [] [] _ [(i13, .cells [(.int .i64 (-1)), (.int .i64 a0.Op), (.int .i64 a0.Of), (.str a0.DN), (.int .i64 a0.Version), (.str a0.Pass), (.int .i64 a0.Scope), (.int .i64 a0.Size), (.int .i64 a0.Filter.Kind), (.str a0.Filter.Attr), (.str a0.Filter.Value), (encSl eS a0.Filter.Subs), (encSl e_Api_Filter a0.Filter.Kids), (encSl eS a0.Wants), (encSl e_Api_Mod a0.Mods), (.str a0.RDN), (.bool a0.DelOld), (.bool a0.HasSup), (.str a0.Sup), (.str a0.Attr), (.str a0.Value), (.int .i64 a0.Code), (.str a0.Matched)]), (i1, .cells (c_Api_Msg a0))] [] [] := H
      refine WO.nil <| KX.seq_n ?_
      obtain rfl := Option.some.inj h
      exact ⟨kn, (hs H), rfl⟩
     ·refine WC.condF rfl hc982 <| WC.seqR <| w (.bool (z14 == 1)) rfl rfl <| w (.bool (z14 == 1)) rfl rfl <| WO.nil ?_
      obtain ⟨y928, hy928, hOy928⟩ := bindS h
      refine WC.join (SJ [(2, (.ptr i1 0)), (5, (.ptr i13 0))] [] [] [(i13, .cells (c_Api_Msg y928)), (i1, .cells (c_Api_Msg a0))] [] [] false) ?_ ?_
      ·replace h := hy928
       rcases iteS h with ⟨hc981, h⟩ | ⟨hc981, h⟩
       ·refine WC.condT rfl hc981 <| WC.region <| w (.ptr i13 1) rfl rfl <| WO.store 0 rfl rfl H rfl rfl rfl rfl rfl rfl rfl (Nat.le_of_ble_eq_true rfl) rfl (own_e hi13) ?_
        intro S H
        replace H : Hp [] [] _ [(i13, .cells [(.int .i64 a0.ID), (.int .i64 11), (.int .i64 a0.Of), (.str a0.DN), (.int .i64 a0.Version), (.str a0.Pass), (.int .i64 a0.Scope), (.int .i64 a0.Size), (.int .i64 a0.Filter.Kind), (.str a0.Filter.Attr), (.str a0.Filter.Value), (encSl eS a0.Filter.Subs), (encSl e_Api_Filter a0.Filter.Kids), (encSl eS a0.Wants), (encSl e_Api_Mod a0.Mods), (.str a0.RDN), (.bool a0.DelOld), (.bool a0.HasSup), (.str a0.Sup), (.str a0.Attr), (.str a0.Value), (.int .i64 a0.Code), (.str a0.Matched)]), (i1, .cells (c_Api_Msg a0))] [] [] := H
        refine WO.nil <| KX.seq_n ?_
        obtain rfl := Option.some.inj h
        exact ⟨kn, (hs H), rfl⟩
       ·refine WC.condF rfl hc981 <| WC.seqR <| w (.bool (z14 == 2)) rfl rfl <| w (.bool (z14 == 2)) rfl rfl <| WO.nil ?_
        obtain ⟨y963, hy963, hOy963⟩ := bindS h
        refine WC.join (SJ [(2, (.ptr i1 0)), (5, (.ptr i13 0))] [] [] [(i13, .cells (c_Api_Msg y963)), (i1, .cells (c_Api_Msg a0))] [] [] false) ?_ ?_
        ·replace h := hy963
         rcases iteS h with ⟨hc980, h⟩ | ⟨hc980, h⟩
         ·refine WC.condT rfl hc980 <| WC.region <| w (.ptr i13 4) rfl rfl <| wg H 0 rfl rfl rfl rfl <| w (.int .i64 (ad .i64 a0.Version 128)) rfl rfl <| w (.ptr i13 4) rfl rfl <| WO.store 0 rfl rfl H rfl rfl rfl rfl rfl rfl rfl (Nat.le_of_ble_eq_true rfl) rfl (own_e hi13) ?_
          intro S H
          replace H : Hp [] [] _ [(i13, .cells [(.int .i64 a0.ID), (.int .i64 a0.Op), (.int .i64 a0.Of), (.str a0.DN), (.int .i64 (ad .i64 a0.Version 128)), (.str a0.Pass), (.int .i64 a0.Scope), (.int .i64 a0.Size), (.int .i64 a0.Filter.Kind), (.str a0.Filter.Attr), (.str a0.Filter.Value), (encSl eS a0.Filter.Subs), (encSl e_Api_Filter a0.Filter.Kids), (encSl eS a0.Wants), (encSl e_Api_Mod a0.Mods), (.str a0.RDN), (.bool a0.DelOld), (.bool a0.HasSup), (.str a0.Sup), (.str a0.Attr), (.str a0.Value), (.int .i64 a0.Code), (.str a0.Matched)]), (i1, .cells (c_Api_Msg a0))] [] [] := H
          refine WO.nil <| KX.seq_n ?_
          obtain rfl := Option.some.inj h
          exact ⟨kn, (hs H), rfl⟩
         ·refine WC.condF rfl hc980 <| WC.seqR <| w (.bool (z14 == 3)) rfl rfl <| w (.bool (z14 == 3)) rfl rfl <| WO.nil ?_
          obtain ⟨y974, hy974, hOy974⟩ := bindS h
          refine WC.join (SJ [(2, (.ptr i1 0)), (5, (.ptr i13 0))] [] [] [(i13, .cells (c_Api_Msg y974)), (i1, .cells (c_Api_Msg a0))] [] [] false) ?_ ?_
          ·replace h := hy974
           rcases iteS h with ⟨hc979, h⟩ | ⟨hc979, h⟩
           ·refine WC.condT rfl hc979 <| WC.region <| w (.ptr i13 6) rfl rfl <| WO.store 0 rfl rfl H rfl rfl rfl rfl rfl rfl rfl (Nat.le_of_ble_eq_true rfl) rfl (own_e hi13) ?_
            intro S H
            replace H : Hp [] [] _ [(i13, .cells [(.int .i64 a0.ID), (.int .i64 a0.Op), (.int .i64 a0.Of), (.str a0.DN), (.int .i64 a0.Version), (.str a0.Pass), (.int .i64 3), (.int .i64 a0.Size), (.int .i64 a0.Filter.Kind), (.str a0.Filter.Attr), (.str a0.Filter.Value), (encSl eS a0.Filter.Subs), (encSl e_Api_Filter a0.Filter.Kids), (encSl eS a0.Wants), (encSl e_Api_Mod a0.Mods), (.str a0.RDN), (.bool a0.DelOld), (.bool a0.HasSup), (.str a0.Sup), (.str a0.Attr), (.str a0.Value), (.int .i64 a0.Code), (.str a0.Matched)]), (i1, .cells (c_Api_Msg a0))] [] [] := H
            refine WO.nil <| KX.seq_n ?_
            obtain rfl := Option.some.inj h
            exact ⟨kn, (hs H), rfl⟩
           ·refine WC.condF rfl hc979 <| WC.seqR <| w (.bool (z14 == 4)) rfl rfl <| w (.bool (z14 == 4)) rfl rfl <| WO.nil ?_
            obtain ⟨y977, hy977, hOy977⟩ := bindS h
            refine WC.join (SJ [(2, (.ptr i1 0)), (5, (.ptr i13 0))] [] [] [(i13, .cells (c_Api_Msg y977)), (i1, .cells (c_Api_Msg a0))] [] [] false) ?_ ?_
            ·replace h := hy977
             rcases iteS h with ⟨hc978, h⟩ | ⟨hc978, h⟩
             ·refine WC.condT rfl hc978 <| WC.region <| w (.ptr i13 21) rfl rfl <| wg H 0 rfl rfl rfl rfl <| w (.int .i64 (ad .i64 a0.Code 128)) rfl rfl <| w (.ptr i13 21) rfl rfl <| WO.store 0 rfl rfl H rfl rfl rfl rfl rfl rfl rfl (Nat.le_of_ble_eq_true rfl) rfl (own_e hi13) ?_
              intro S H
              replace H : Hp [] [] _ [(i13, .cells [(.int .i64 a0.ID), (.int .i64 a0.Op), (.int .i64 a0.Of), (.str a0.DN), (.int .i64 a0.Version), (.str a0.Pass), (.int .i64 a0.Scope), (.int .i64 a0.Size), (.int .i64 a0.Filter.Kind), (.str a0.Filter.Attr), (.str a0.Filter.Value), (encSl eS a0.Filter.Subs), (encSl e_Api_Filter a0.Filter.Kids), (encSl eS a0.Wants), (encSl e_Api_Mod a0.Mods), (.str a0.RDN), (.bool a0.DelOld), (.bool a0.HasSup), (.str a0.Sup), (.str a0.Attr), (.str a0.Value), (.int .i64 (ad .i64 a0.Code 128)), (.str a0.Matched)]), (i1, .cells (c_Api_Msg a0))] [] [] := H
              refine WO.nil <| KX.seq_n ?_
              obtain rfl := Option.some.inj h
              exact ⟨kn, (hs H), rfl⟩
             ·refine WC.condF rfl hc978 <| WC.region <| w (.ptr i13 7) rfl rfl <| WO.store 0 rfl rfl H rfl rfl rfl rfl rfl rfl rfl (Nat.le_of_ble_eq_true rfl) rfl (own_e hi13) ?_
              intro S H
              replace H : Hp [] [] _ [(i13, .cells [(.int .i64 a0.ID), (.int .i64 a0.Op), (.int .i64 a0.Of), (.str a0.DN), (.int .i64 a0.Version), (.str a0.Pass), (.int .i64 a0.Scope), (.int .i64 (-1)), (.int .i64 a0.Filter.Kind), (.str a0.Filter.Attr), (.str a0.Filter.Value), (encSl eS a0.Filter.Subs), (encSl e_Api_Filter a0.Filter.Kids), (encSl eS a0.Wants), (encSl e_Api_Mod a0.Mods), (.str a0.RDN), (.bool a0.DelOld), (.bool a0.HasSup), (.str a0.Sup), (.str a0.Attr), (.str a0.Value), (.int .i64 a0.Code), (.str a0.Matched)]), (i1, .cells (c_Api_Msg a0))] [] [] := H
              refine WO.nil <| KX.seq_n ?_
              obtain rfl := Option.some.inj h
              exact ⟨kn, (hs H), rfl⟩
            ·rintro σ S e ⟨hk, H, rfl⟩
             replace h := hOy977
             refine KX.of_known hk <| KX.seq_n ?_
             obtain rfl := Option.some.inj h
             exact ⟨kn, (hs H), rfl⟩
          ·rintro σ S e ⟨hk, H, rfl⟩
           replace h := hOy974
           refine KX.of_known hk <| KX.seq_n ?_
           obtain rfl := Option.some.inj h
           exact ⟨kn, (hs H), rfl⟩
        ·rintro σ S e ⟨hk, H, rfl⟩
         replace h := hOy963
         refine KX.of_known hk <| KX.seq_n ?_
         obtain rfl := Option.some.inj h
         exact ⟨kn, (hs H), rfl⟩
      ·rintro σ S e ⟨hk, H, rfl⟩
       replace h := hOy928
       refine KX.of_known hk <| KX.seq_n ?_
       obtain rfl := Option.some.inj h
       exact ⟨kn, (hs H), rfl⟩
    ·rintro σ S e ⟨hk, H, rfl⟩
     replace h := hOy821
     refine KX.of_known hk <| KX.block_n <| KX.seq_n <| WC.seqR <| wg H 0 rfl rfl rfl rfl ?_
     obtain ⟨y983, hy983, h⟩ := bindS h
     refine w (.tup [(.str y983.1), (.int .i64 y983.2)]) rfl (nz rfl (stp_call (vs := [(.agg (c_Api_Msg y821))]) rfl rfl (s9 _ hy983 (by simp only [st_agg, List.map_cons, List.map_nil, st1_int, st1_str, strip1_enc, st1_bool, tupled, e_Api_Msg]) _))) <| w (.tup [(.str y983.1), (.int .i64 y983.2)]) rfl rfl <| w (.str y983.1) rfl rfl <| w (.int .i64 y983.2) rfl rfl <| w (.str y983.1) rfl rfl <| w (.int .i64 y983.2) rfl rfl <| WO.nil <| WC.seqR <| wg H 0 rfl rfl rfl rfl ?_
     obtain ⟨y984, hy984, h⟩ := bindS h
     refine w (.bool y984) rfl (nz rfl (stp_call (vs := [(.agg (c_Api_Msg y821))]) rfl rfl (s11 _ hy984 (by simp only [st_agg, List.map_cons, List.map_nil, st1_int, st1_str, strip1_enc, st1_bool, tupled, e_Api_Msg]) _))) <| w (.bool (!y984)) rfl rfl <| w (.bool (!y984)) rfl rfl ?_
     refine WO.split 3 (SJ [(2, (.ptr i1 0)), (5, (.ptr i13 0)), (54, (.bool ((!y984) && (y983.2 == 14))))] [] [] [(i13, .cells (c_Api_Msg y821)), (i1, .cells (c_Api_Msg a0))] [] [] false) ?_ ?_
     ·revert H
      cases hc985 : (!y984)
      ·intro H
       refine WO.by rfl rfl rfl <| WO.by rfl rfl rfl <| w (.bool false) rfl rfl <| WO.nil ?_
       exact ⟨kn, H, rfl⟩
      ·intro H
       refine WO.go0 rfl rfl <| w (.int .i64 y983.2) rfl rfl <| WO.go0 rfl rfl <| w (.bool (y983.2 == 14)) rfl rfl <| w (.bool (y983.2 == 14)) rfl rfl <| WO.nil ?_
       exact ⟨kn, H, rfl⟩
     ·rintro σ S e ⟨hk, H, rfl⟩
      refine WO.of_known hk <| w (.bool ((!y984) && (y983.2 == 14))) rfl rfl ?_
      obtain ⟨y990, hy990, hOy990⟩ := bindS h
      refine WO.split 5 (SJ [(2, (.ptr i1 0)), (60, (.bool y990))] [] [] [(i13, .cells (c_Api_Msg y821)), (i1, .cells (c_Api_Msg a0))] [] [] false) ?_ ?_
      ·replace h := hy990
       revert H
       cases hc992 : ((!y984) && (y983.2 == 14))
       ·intro H
        replace h := iteF h hc992
        refine WO.by rfl rfl rfl <| WO.by rfl rfl rfl <| WO.by rfl rfl rfl <| WO.by rfl rfl rfl <| w (.bool false) rfl rfl <| WO.nil ?_
        obtain rfl := Option.some.inj h
        exact ⟨kn, (hs H), rfl⟩
       ·intro H
        replace h := iteT h hc992
        refine WO.go0 rfl rfl <| wg H 1 rfl rfl rfl rfl <| WO.go0 rfl rfl <| wg H 0 rfl rfl rfl rfl <| WO.go0 rfl rfl ?_
        obtain ⟨y991, hy991, h⟩ := bindS h
        refine w (.bool y991) rfl (nz rfl (stp_call (vs := [(.agg (c_Api_Msg a0)), (.agg (c_Api_Msg y821))]) rfl rfl (s13 _ hy991 (by simp only [st_agg, List.map_cons, List.map_nil, st1_int, st1_str, strip1_enc, st1_bool, tupled, e_Api_Msg]) _))) <| WO.go0 rfl rfl <| w (.bool (!y991)) rfl rfl <| w (.bool (!y991)) rfl rfl <| WO.nil ?_
        obtain rfl := Option.some.inj h
        exact ⟨kn, (hs H), rfl⟩
      ·rintro σ S e ⟨hk, H, rfl⟩
       replace h := hOy990
       refine WO.of_known hk <| w (.bool y990) rfl rfl ?_
       obtain ⟨y997, hy997, hOy997⟩ := bindS h
       refine WO.split 3 (SJ [(64, (.bool y997))] [] [] [(i13, .cells (c_Api_Msg y821)), (i1, .cells (c_Api_Msg a0))] [] [] false) ?_ ?_
       ·replace h := hy997
        revert H
        cases hc999 : y990
        ·intro H
         replace h := iteF h hc999
         refine WO.by rfl rfl rfl <| WO.by rfl rfl rfl <| w (.bool false) rfl rfl <| WO.nil ?_
         obtain rfl := Option.some.inj h
         exact ⟨kn, (hs H), rfl⟩
        ·intro H
         replace h := iteT h hc999
         refine WO.go0 rfl rfl <| wg H 1 rfl rfl rfl rfl <| WO.go0 rfl rfl ?_
         obtain ⟨y998, hy998, h⟩ := bindS h
         refine w (.bool y998) rfl (nz rfl (stp_call (vs := [(.agg (c_Api_Msg a0))]) rfl rfl (s11 _ hy998 (by simp only [st_agg, List.map_cons, List.map_nil, st1_int, st1_str, strip1_enc, st1_bool, tupled, e_Api_Msg]) _))) <| w (.bool y998) rfl rfl <| WO.nil ?_
         obtain rfl := Option.some.inj h
         exact ⟨kn, (hs H), rfl⟩
       ·rintro σ S e ⟨hk, H, rfl⟩
        replace h := hOy997
        refine WO.of_known hk <| w (.bool y997) rfl rfl <| WO.nil <| WC.ret ?_
        obtain rfl := Option.some.inj h
        refine KB.ret (vs := [(.bool y997)]) (res_tmp rfl res_nil) (fl_cons' rfl rfl) ?_
        exact rfl
end Go.Proofs.YtbinlabnilidiaaGreatDoor.M
