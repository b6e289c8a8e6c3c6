/- Part of the proof: the runs of functions on the abstract machine. -/
import Derived.Test.YthkjepoaddfoiaaPamM4
import Derived.Test.YthkjepoaddfoiaaFns
import Derived.Test.YthkjepoaddfoiaaFDe
import Derived.Test.YthkjepoaddfoiaaFDc
import Derived.Test.YthkjepoaddfoiaaFDc1
import Derived.Test.YthkjepoaddfoiaaFDw
import Derived.Test.YthkjepoaddfoiaaFDr
import Derived.Test.YthkjepoaddfoiaaFDq
namespace Go.Proofs.Ythkjepoaddfoiaa.M
open Go Go.Pam Go.RowKit Go.WideShapes
set_option maxRecDepth 4000
set_option linter.unusedVariables false
set_option linter.unusedSimpArgs false

def F4 (k : Nat) (a0 : Api_Filter) (a1 : Int) (a2 : Int) : Option Bool :=
 Option.bind (F8 k ) fun y2 =>
 if !y2 then
 some false
 else
 Option.bind (F9 k a0 0) fun y4 =>
 Option.bind (if !y4 then
 some true
 else
 Option.bind (F12 k a0) fun y10 =>
 some (!y10)) fun y9 =>
 if y9 then
 some true
 else
 Option.bind (F13 k a0) fun y13 =>
 Option.bind (F18 k y13) fun y14 =>
 Option.bind (if y14.2 != 0 then
 some true
 else
 Option.bind (F17 k a0 y14.1) fun y21 =>
 some (!y21)) fun y20 =>
 if y20 || ((Str.len y13) == 0) then
 some false
 else
 Option.bind (rem? (cv .i64 a1) (Str.len y13)) fun z25 =>
 Option.bind (Sl.at? (Str.bytes y13) z25) fun y27 =>
 Option.bind (F19 k (Str.of (Sl.set (Str.bytes y13) z25 a2))) fun y31 =>
 Option.bind (if y31 then
 Option.bind (Str.app? y13 (Str.of (some [a2]))) fun z44 =>
 Option.bind (F19 k z44) fun y45 =>
 some y45
 else
 some false) fun y42 =>
 Option.bind (if y42 then
 Option.bind (Str.sub? y13 0 z25) fun z55 =>
 Option.bind (F20 k z55) fun y56 =>
 some (!y56)
 else
 some false) fun y54 =>
 Option.bind (if y54 then
 Option.bind (Str.app? y13 [40, 41]) fun z66 =>
 Option.bind (F20 k z66) fun y67 =>
 some (!y67)
 else
 some false) fun y65 =>
 some y65
theorem s4 : ∀ k : Nat, ∀ {a0 : Api_Filter} {a1 : Int} {a2 : Int} {r : Bool}, F4 k a0 a1 a2 = some r → ∀ {vs : List PV}, vs.map PV.strip = [(.agg [(.int .i64 a0.Kind), (.str a0.Attr), (.str a0.Value), (encSl eS a0.Subs), (encSl e_Api_Filter a0.Kids)]), (.int .u16 a1), (.int .u8 a2)] → ∀ S : List SObj, evw env 4 vs S = some ((.bool r), S, false) := by
 intro k a0 a1 a2 r h vs ha S
 unfold F4 at h
 refine evw_pureW (pf := fn4) rfl rfl ha (Nat.le_of_ble_eq_true rfl) (by simp [PV.clean, cleanL, clean_encSl clean_Api_Filter, clean_encSl clean_eS]) rfl ?_
 refine WB.of (pf := fn4) rfl ?_
 have H := Hp.start []
 refine WC.seqR ?_
 refine WO.box' rfl rfl rfl rfl rfl H ?_
 intro i1 S hi1 H
 refine WS (v := .bool false) rfl (nz rfl rfl) ?_
 refine WO.nil ?_
 refine WC.seq ?_
 refine WC.seqR ?_
 obtain ⟨y2, hy2, h⟩ := bindS h
 refine WS (v := .bool y2) rfl (nz rfl (stp_call (vs := []) rfl rfl (s8 _ hy2 rfl _))) ?_
 refine WS (v := (.bool (!y2))) rfl (nz rfl rfl) ?_
 refine WO.nil ?_
 rcases iteS h with ⟨hc71, h⟩ | ⟨hc71, h⟩
 ·refine WC.condT rfl hc71 ?_
  refine WC.seqR ?_
  refine WS (v := .bool false) rfl (nz rfl rfl) ?_
  refine WO.nil ?_
  refine WC.ret ?_
  refine KX.seq_r ?_
  obtain rfl := Option.some.inj h
  refine KB.ret (vs := [(.bool false)]) (res_tmp rfl res_nil) (fl_cons' rfl rfl) ?_
  exact rfl
 ·refine WC.condF rfl hc71 ?_
  refine WC.skip ?_
  refine KX.seq_n ?_
  refine WC.seq ?_
  refine WC.seqR ?_
  refine WS (v := (.agg [(.int .i64 a0.Kind), (.str a0.Attr), (.str a0.Value), (encSl eS a0.Subs), (encSl e_Api_Filter a0.Kids)])) rfl (nz rfl (stp_load rfl (H.get 0 rfl) rfl)) ?_
  obtain ⟨y4, hy4, h⟩ := bindS h
  refine WS (v := .bool y4) rfl (nz rfl (stp_call (vs := [(.agg [(.int .i64 a0.Kind), (.str a0.Attr), (.str a0.Value), (encSl eS a0.Subs), (encSl e_Api_Filter a0.Kids)]), (.int .i64 0)]) rfl rfl (s9 _ hy4 (by simp only [st_agg, List.map_cons, List.map_nil, st1_int, st1_str, strip1_enc, e_Api_Filter_eq, st_int, tupled]) _))) ?_
  refine WS (v := (.bool (!y4))) rfl (nz rfl rfl) ?_
  refine WS (v := (.bool (!y4))) rfl (nz rfl rfl) ?_
  obtain ⟨y9, hy9, hOy9⟩ := bindS h
  refine WO.split 4 (fun σ' S' e' => Known ([(1, (.int .u16 a1)), (2, (.int .u8 a2)), (3, (.ptr i1 0)), (21, (.bool y9))]) σ' ∧ Hp [] [] S' [(i1, .cells [(.int .i64 a0.Kind), (.str a0.Attr), (.str a0.Value), (encSl eS a0.Subs), (encSl e_Api_Filter a0.Kids)])] [] [] ∧ e' = false) ?_ ?_
  ·replace h := hy9
   revert H
   cases hc11 : (!y4)
   ·intro H
    replace h := iteF h hc11
    refine WO.go0 rfl rfl ?_
    refine WS (v := (.agg [(.int .i64 a0.Kind), (.str a0.Attr), (.str a0.Value), (encSl eS a0.Subs), (encSl e_Api_Filter a0.Kids)])) rfl (nz rfl (stp_load rfl (H.get 0 rfl) rfl)) ?_
    refine WO.go0 rfl rfl ?_
    obtain ⟨y10, hy10, h⟩ := bindS h
    refine WS (v := .bool y10) rfl (nz rfl (stp_call (vs := [(.agg [(.int .i64 a0.Kind), (.str a0.Attr), (.str a0.Value), (encSl eS a0.Subs), (encSl e_Api_Filter a0.Kids)])]) rfl rfl (s12 _ hy10 (by simp only [st_agg, List.map_cons, List.map_nil, st1_int, st1_str, strip1_enc, e_Api_Filter_eq, tupled]) _))) ?_
    refine WO.go0 rfl rfl ?_
    refine WS (v := (.bool (!y10))) rfl (nz rfl rfl) ?_
    refine WS (v := (.bool (!y10))) rfl (nz rfl rfl) ?_
    refine WO.nil ?_
    obtain rfl := Option.some.inj h
    exact ⟨(kc rfl (kc rfl (kc rfl (kc rfl known_nil)))), (H.sub (.cons_cons _ .slnil) .slnil .slnil), rfl⟩
   ·intro H
    replace h := iteT h hc11
    refine WO.by rfl rfl rfl ?_
    refine WO.by rfl rfl rfl ?_
    refine WO.by rfl rfl rfl ?_
    refine WS (v := .bool true) rfl (nz rfl rfl) ?_
    refine WO.nil ?_
    obtain rfl := Option.some.inj h
    exact ⟨(kc rfl (kc rfl (kc rfl (kc rfl known_nil)))), (H.sub (.cons_cons _ .slnil) .slnil .slnil), rfl⟩
  ·rintro σ S e ⟨hk, H, rfl⟩
   replace h := hOy9
   refine WO.of_known hk ?_
   refine WO.nil ?_
   rcases iteS h with ⟨hc70, h⟩ | ⟨hc70, h⟩
   ·refine WC.condT rfl hc70 ?_
    refine WC.seqR ?_
    refine WS (v := .bool true) rfl (nz rfl rfl) ?_
    refine WO.nil ?_
    refine WC.ret ?_
    refine KX.seq_r ?_
    obtain rfl := Option.some.inj h
    refine KB.ret (vs := [(.bool true)]) (res_tmp rfl res_nil) (fl_cons' rfl rfl) ?_
    exact rfl
   ·refine WC.condF rfl hc70 ?_
    refine WC.skip ?_
    refine KX.seq_n ?_
    refine WC.seqR ?_
    refine WS (v := (.agg [(.int .i64 a0.Kind), (.str a0.Attr), (.str a0.Value), (encSl eS a0.Subs), (encSl e_Api_Filter a0.Kids)])) rfl (nz rfl (stp_load rfl (H.get 0 rfl) rfl)) ?_
    obtain ⟨y13, hy13, h⟩ := bindS h
    refine WS (v := .str y13) rfl (nz rfl (stp_call (vs := [(.agg [(.int .i64 a0.Kind), (.str a0.Attr), (.str a0.Value), (encSl eS a0.Subs), (encSl e_Api_Filter a0.Kids)])]) rfl rfl (s13 _ hy13 (by simp only [st_agg, List.map_cons, List.map_nil, st1_int, st1_str, strip1_enc, e_Api_Filter_eq, tupled]) _))) ?_
    refine WS (v := .str y13) rfl (nz rfl rfl) ?_
    refine WO.nil ?_
    refine WC.seqR ?_
    refine WS (v := .str y13) rfl (nz rfl rfl) ?_
    obtain ⟨y14, hy14, h⟩ := bindS h
    refine WS (v := (.tup [(.agg [(.int .i64 y14.1.Kind), (.str y14.1.Attr), (.str y14.1.Value), (encSl eS y14.1.Subs), (encSl e_Api_Filter y14.1.Kids)]), (.int .i64 y14.2)])) rfl (nz rfl (stp_call (vs := [(.str y13)]) rfl rfl (s18 _ hy14 rfl _))) ?_
    refine WS (v := (.tup [(.agg [(.int .i64 y14.1.Kind), (.str y14.1.Attr), (.str y14.1.Value), (encSl eS y14.1.Subs), (encSl e_Api_Filter y14.1.Kids)]), (.int .i64 y14.2)])) rfl (nz rfl rfl) ?_
    refine WS (v := (.agg [(.int .i64 y14.1.Kind), (.str y14.1.Attr), (.str y14.1.Value), (encSl eS y14.1.Subs), (encSl e_Api_Filter y14.1.Kids)])) rfl (nz rfl rfl) ?_
    refine WS (v := .int .i64 y14.2) rfl (nz rfl rfl) ?_
    refine WO.alloc' (ti := ty25) rfl rfl rfl rfl H ?_
    intro i15 S hi15 H
    refine WO.store 0 rfl rfl H rfl rfl rfl rfl rfl rfl rfl (Nat.le_of_ble_eq_true rfl) rfl (own_e hi15) ?_
    intro S H
    replace H : Hp [] [] _ [(i15, .cells [(.int .i64 y14.1.Kind), (.str y14.1.Attr), (.str y14.1.Value), (encSl eS y14.1.Subs), (encSl e_Api_Filter y14.1.Kids)]), (i1, .cells [(.int .i64 a0.Kind), (.str a0.Attr), (.str a0.Value), (encSl eS a0.Subs), (encSl e_Api_Filter a0.Kids)])] [] [] := H
    refine WS (v := .int .i64 y14.2) rfl (nz rfl rfl) ?_
    refine WO.nil ?_
    refine WC.seq ?_
    refine WC.seqR ?_
    refine WS (v := .int .i64 y14.2) rfl (nz rfl rfl) ?_
    refine WS (v := (.bool (y14.2 != 0))) rfl (nz rfl rfl) ?_
    refine WS (v := (.bool (y14.2 != 0))) rfl (nz rfl rfl) ?_
    obtain ⟨y20, hy20, hOy20⟩ := bindS h
    refine WO.split 5 (fun σ' S' e' => Known ([(1, (.int .u16 a1)), (2, (.int .u8 a2)), (7, (.str y13)), (36, (.bool y20))]) σ' ∧ Hp [] [] S' [(i15, .cells [(.int .i64 y14.1.Kind), (.str y14.1.Attr), (.str y14.1.Value), (encSl eS y14.1.Subs), (encSl e_Api_Filter y14.1.Kids)]), (i1, .cells [(.int .i64 a0.Kind), (.str a0.Attr), (.str a0.Value), (encSl eS a0.Subs), (encSl e_Api_Filter a0.Kids)])] [] [] ∧ e' = false) ?_ ?_
    ·replace h := hy20
     revert H
     cases hc22 : (y14.2 != 0)
     ·intro H
      replace h := iteF h hc22
      refine WO.go0 rfl rfl ?_
      refine WS (v := (.agg [(.int .i64 a0.Kind), (.str a0.Attr), (.str a0.Value), (encSl eS a0.Subs), (encSl e_Api_Filter a0.Kids)])) rfl (nz rfl (stp_load rfl (H.get 1 rfl) rfl)) ?_
      refine WO.go0 rfl rfl ?_
      refine WS (v := (.agg [(.int .i64 y14.1.Kind), (.str y14.1.Attr), (.str y14.1.Value), (encSl eS y14.1.Subs), (encSl e_Api_Filter y14.1.Kids)])) rfl (nz rfl (stp_load rfl (H.get 0 rfl) rfl)) ?_
      refine WO.go0 rfl rfl ?_
      obtain ⟨y21, hy21, h⟩ := bindS h
      refine WS (v := .bool y21) rfl (nz rfl (stp_call (vs := [(.agg [(.int .i64 a0.Kind), (.str a0.Attr), (.str a0.Value), (encSl eS a0.Subs), (encSl e_Api_Filter a0.Kids)]), (.agg [(.int .i64 y14.1.Kind), (.str y14.1.Attr), (.str y14.1.Value), (encSl eS y14.1.Subs), (encSl e_Api_Filter y14.1.Kids)])]) rfl rfl (s17 _ hy21 (by simp only [st_agg, List.map_cons, List.map_nil, st1_int, st1_str, strip1_enc, e_Api_Filter_eq, tupled]) _))) ?_
      refine WO.go0 rfl rfl ?_
      refine WS (v := (.bool (!y21))) rfl (nz rfl rfl) ?_
      refine WS (v := (.bool (!y21))) rfl (nz rfl rfl) ?_
      refine WO.nil ?_
      obtain rfl := Option.some.inj h
      exact ⟨(kc rfl (kc rfl (kc rfl (kc rfl known_nil)))), (H.sub (.cons_cons _ (.cons_cons _ .slnil)) .slnil .slnil), rfl⟩
     ·intro H
      replace h := iteT h hc22
      refine WO.by rfl rfl rfl ?_
      refine WO.by rfl rfl rfl ?_
      refine WO.by rfl rfl rfl ?_
      refine WO.by rfl rfl rfl ?_
      refine WS (v := .bool true) rfl (nz rfl rfl) ?_
      refine WO.nil ?_
      obtain rfl := Option.some.inj h
      exact ⟨(kc rfl (kc rfl (kc rfl (kc rfl known_nil)))), (H.sub (.cons_cons _ (.cons_cons _ .slnil)) .slnil .slnil), rfl⟩
    ·rintro σ S e ⟨hk, H, rfl⟩
     replace h := hOy20
     refine WO.of_known hk ?_
     refine WS (v := .bool y20) rfl (nz rfl rfl) ?_
     refine WO.split 4 (fun σ' S' e' => Known ([(1, (.int .u16 a1)), (2, (.int .u8 a2)), (7, (.str y13)), (41, (.bool (y20 || ((Str.len y13) == 0))))]) σ' ∧ Hp [] [] S' [(i15, .cells [(.int .i64 y14.1.Kind), (.str y14.1.Attr), (.str y14.1.Value), (encSl eS y14.1.Subs), (encSl e_Api_Filter y14.1.Kids)]), (i1, .cells [(.int .i64 a0.Kind), (.str a0.Attr), (.str a0.Value), (encSl eS a0.Subs), (encSl e_Api_Filter a0.Kids)])] [] [] ∧ e' = false) ?_ ?_
     ·revert H
      cases hc23 : y20
      ·intro H
       refine WO.go0 rfl rfl ?_
       refine WS (v := .str y13) rfl (nz rfl rfl) ?_
       refine WO.go0 rfl rfl ?_
       refine WS (v := (.int .i64 (Str.len y13))) rfl (nz rfl rfl) ?_
       refine WO.go0 rfl rfl ?_
       refine WS (v := (.bool ((Str.len y13) == 0))) rfl (nz rfl rfl) ?_
       refine WS (v := (.bool ((Str.len y13) == 0))) rfl (nz rfl rfl) ?_
       refine WO.nil ?_
       exact ⟨(kc rfl (kc rfl (kc rfl (kc rfl known_nil)))), H, rfl⟩
      ·intro H
       refine WO.by rfl rfl rfl ?_
       refine WO.by rfl rfl rfl ?_
       refine WO.by rfl rfl rfl ?_
       refine WS (v := .bool true) rfl (nz rfl rfl) ?_
       refine WO.nil ?_
       exact ⟨(kc rfl (kc rfl (kc rfl (kc rfl known_nil)))), H, rfl⟩
     ·rintro σ S e ⟨hk, H, rfl⟩
      refine WO.of_known hk ?_
      refine WO.nil ?_
      rcases iteS h with ⟨hc69, h⟩ | ⟨hc69, h⟩
      ·refine WC.condT rfl hc69 ?_
       refine WC.seqR ?_
       refine WS (v := .bool false) rfl (nz rfl rfl) ?_
       refine WO.nil ?_
       refine WC.ret ?_
       refine KX.seq_r ?_
       obtain rfl := Option.some.inj h
       refine KB.ret (vs := [(.bool false)]) (res_tmp rfl res_nil) (fl_cons' rfl rfl) ?_
       exact rfl
      ·refine WC.condF rfl hc69 ?_
       refine WC.skip ?_
       refine KX.seq_n ?_
       refine WC.seqR ?_
       refine WS (v := .int .u16 a1) rfl (nz rfl rfl) ?_
       refine WS (v := (.int .i64 (cv .i64 a1))) rfl (nz rfl rfl) ?_
       refine WS (v := .str y13) rfl (nz rfl rfl) ?_
       refine WS (v := (.int .i64 (Str.len y13))) rfl (nz rfl rfl) ?_
       obtain ⟨z25, hz25, h⟩ := bindS h
       refine WS (v := .int .i64 z25) rfl (nz rfl (stp_rem rfl rfl hz25)) ?_
       refine WS (v := .int .i64 z25) rfl (nz rfl rfl) ?_
       refine WO.nil ?_
       refine WC.seqR ?_
       refine WS (v := .str y13) rfl (nz rfl rfl) ?_
       refine WO.ex rfl (bzn rfl (born_bytes rfl rfl rfl rfl H)) ?_
       rintro v26 S ⟨hv26, H⟩
       replace H : Hp [] [] _ [(i15, .cells [(.int .i64 y14.1.Kind), (.str y14.1.Attr), (.str y14.1.Value), (encSl eS y14.1.Subs), (encSl e_Api_Filter y14.1.Kids)]), (i1, .cells [(.int .i64 a0.Kind), (.str a0.Attr), (.str a0.Value), (encSl eS a0.Subs), (encSl e_Api_Filter a0.Kids)])] [] [(v26, rowO (eI .u8) 1 false (Str.bytes y13))] := H
       refine WS (v := v26) rfl (nz rfl rfl) ?_
       refine WO.nil ?_
       refine WC.seqR ?_
       refine WS (v := v26) rfl (nz rfl rfl) ?_
       refine WS (v := .int .i64 z25) rfl (nz rfl rfl) ?_
       refine WS (v := .int .u8 a2) rfl (nz rfl rfl) ?_
       obtain ⟨y27, hy27, h⟩ := bindS h
       obtain ⟨i28, hi28⟩ := IsW.id hv26 hy27
       refine WS (v := (.ptr i28 (Int.toNat z25 * 1 + 0))) rfl (nz rfl (stp_idxW (sz := 1) rfl hv26 rfl rfl rfl hy27 hi28)) ?_
       refine WO.storeW 0 (f := (eI .u8)) (u := (.int .u8 a2)) (y' := a2) (xc := [(.int .u8 a2)]) (e' := false) rfl rfl H rfl hi28 rfl rfl hy27 rfl rfl rfl rfl (Nat.le_of_ble_eq_true rfl) (Nat.le_of_ble_eq_true rfl) rfl (clean_e rfl) ?_
       intro S H
       have hw29 := IsW.set hv26 z25 a2
       replace H : Hp [] [] _ [(i15, .cells [(.int .i64 y14.1.Kind), (.str y14.1.Attr), (.str y14.1.Value), (encSl eS y14.1.Subs), (encSl e_Api_Filter y14.1.Kids)]), (i1, .cells [(.int .i64 a0.Kind), (.str a0.Attr), (.str a0.Value), (encSl eS a0.Subs), (encSl e_Api_Filter a0.Kids)])] [] [(v26, rowO (eI .u8) 1 false (Sl.set (Str.bytes y13) z25 a2))] := H
       refine WO.nil ?_
       refine WC.seqR ?_
       refine WS (v := v26) rfl (nz rfl rfl) ?_
       obtain ⟨S, q30, H⟩ := IsW.frz (f := (eI .u8)) H 0 rfl hw29
       replace H : Hp [] [] _ [(i15, .cells [(.int .i64 y14.1.Kind), (.str y14.1.Attr), (.str y14.1.Value), (encSl eS y14.1.Subs), (encSl e_Api_Filter y14.1.Kids)]), (i1, .cells [(.int .i64 a0.Kind), (.str a0.Attr), (.str a0.Value), (encSl eS a0.Subs), (encSl e_Api_Filter a0.Kids)])] [] [(v26, rowO (eI .u8) 1 true (Sl.set (Str.bytes y13) z25 a2))] := H
       refine WS (v := (.str (Str.of (Sl.set (Str.bytes y13) z25 a2)))) rfl (yz (fz_W q30 rfl) (stp_text rfl (isSl_enc _ _) rfl rfl rfl)) ?_
       obtain ⟨y31, hy31, h⟩ := bindS h
       refine WS (v := .bool y31) rfl (nz rfl (stp_call (vs := [(.str (Str.of (Sl.set (Str.bytes y13) z25 a2)))]) rfl rfl (s19 _ hy31 rfl _))) ?_
       refine WS (v := .bool y31) rfl (nz rfl rfl) ?_
       obtain ⟨y42, hy42, hOy42⟩ := bindS h
       refine WO.split 7 (fun σ' S' e' => Known ([(7, (.str y13)), (10, (.int .i64 z25)), (63, (.bool y42))]) σ' ∧ Hp [] [] S' [(i15, .cells [(.int .i64 y14.1.Kind), (.str y14.1.Attr), (.str y14.1.Value), (encSl eS y14.1.Subs), (encSl e_Api_Filter y14.1.Kids)]), (i1, .cells [(.int .i64 a0.Kind), (.str a0.Attr), (.str a0.Value), (encSl eS a0.Subs), (encSl e_Api_Filter a0.Kids)])] [] [(v26, rowO (eI .u8) 1 true (Sl.set (Str.bytes y13) z25 a2))] ∧ e' = false) ?_ ?_
       ·replace h := hy42
        revert H
        cases hc46 : y31
        ·intro H
         replace h := iteF h hc46
         refine WO.by rfl rfl rfl ?_
         refine WO.by rfl rfl rfl ?_
         refine WO.by rfl rfl rfl ?_
         refine WO.by rfl rfl rfl ?_
         refine WO.by rfl rfl rfl ?_
         refine WO.by rfl rfl rfl ?_
         refine WS (v := .bool false) rfl (nz rfl rfl) ?_
         refine WO.nil ?_
         obtain rfl := Option.some.inj h
         exact ⟨(kc rfl (kc rfl (kc rfl known_nil))), (H.sub (.cons_cons _ (.cons_cons _ .slnil)) .slnil (.cons_cons _ .slnil)), rfl⟩
        ·intro H
         replace h := iteT h hc46
         refine WO.go0 rfl rfl ?_
         refine WS (v := .str y13) rfl (nz rfl rfl) ?_
         refine WO.go0 rfl rfl ?_
         refine WS (v := .int .u8 a2) rfl (nz rfl rfl) ?_
         refine WO.go0 rfl rfl ?_
         refine WS rfl (nz rfl (stp_buildSlice (ys := [a2]) (f := (eI .u8)) (parts := [(0, (.int .u8 a2))]) rfl rfl rfl rfl rfl rfl (fc ⟨rfl, rfl⟩ (fun p hp => nomatch hp)) rfl)) ?_
         have hv43 : IsSl (eI .u8) (some [a2]) _ := ⟨.full, rfl⟩
         refine WO.go0 rfl rfl ?_
         refine WS (v := (.str (Str.of (some [a2])))) rfl (nz (fz_tmp' hv43.frz rfl) (stp_text rfl hv43 rfl rfl rfl)) ?_
         refine WO.go0 rfl rfl ?_
         obtain ⟨z44, hz44, h⟩ := bindS h
         refine WS (v := .str z44) rfl (nz rfl (stp_strApp rfl rfl hz44)) ?_
         refine WO.go0 rfl rfl ?_
         obtain ⟨y45, hy45, h⟩ := bindS h
         refine WS (v := .bool y45) rfl (nz rfl (stp_call (vs := [(.str z44)]) rfl rfl (s19 _ hy45 rfl _))) ?_
         refine WS (v := .bool y45) rfl (nz rfl rfl) ?_
         refine WO.nil ?_
         obtain rfl := Option.some.inj h
         exact ⟨(kc rfl (kc rfl (kc rfl known_nil))), (H.sub (.cons_cons _ (.cons_cons _ .slnil)) .slnil (.cons_cons _ .slnil)), rfl⟩
       ·rintro σ S e ⟨hk, H, rfl⟩
        replace h := hOy42
        refine WO.of_known hk ?_
        refine WS (v := .bool y42) rfl (nz rfl rfl) ?_
        obtain ⟨y54, hy54, hOy54⟩ := bindS h
        refine WO.split 6 (fun σ' S' e' => Known ([(7, (.str y13)), (70, (.bool y54))]) σ' ∧ Hp [] [] S' [(i15, .cells [(.int .i64 y14.1.Kind), (.str y14.1.Attr), (.str y14.1.Value), (encSl eS y14.1.Subs), (encSl e_Api_Filter y14.1.Kids)]), (i1, .cells [(.int .i64 a0.Kind), (.str a0.Attr), (.str a0.Value), (encSl eS a0.Subs), (encSl e_Api_Filter a0.Kids)])] [] [(v26, rowO (eI .u8) 1 true (Sl.set (Str.bytes y13) z25 a2))] ∧ e' = false) ?_ ?_
        ·replace h := hy54
         revert H
         cases hc57 : y42
         ·intro H
          replace h := iteF h hc57
          refine WO.by rfl rfl rfl ?_
          refine WO.by rfl rfl rfl ?_
          refine WO.by rfl rfl rfl ?_
          refine WO.by rfl rfl rfl ?_
          refine WO.by rfl rfl rfl ?_
          refine WS (v := .bool false) rfl (nz rfl rfl) ?_
          refine WO.nil ?_
          obtain rfl := Option.some.inj h
          exact ⟨(kc rfl (kc rfl known_nil)), (H.sub (.cons_cons _ (.cons_cons _ .slnil)) .slnil (.cons_cons _ .slnil)), rfl⟩
         ·intro H
          replace h := iteT h hc57
          refine WO.go0 rfl rfl ?_
          refine WS (v := .str y13) rfl (nz rfl rfl) ?_
          refine WO.go0 rfl rfl ?_
          refine WS (v := .int .i64 z25) rfl (nz rfl rfl) ?_
          refine WO.go0 rfl rfl ?_
          obtain ⟨z55, hz55, h⟩ := bindS h
          refine WS (v := .str z55) rfl (nz rfl (stp_subStr rfl rfl rfl rfl hz55)) ?_
          refine WO.go0 rfl rfl ?_
          obtain ⟨y56, hy56, h⟩ := bindS h
          refine WS (v := .bool y56) rfl (nz rfl (stp_call (vs := [(.str z55)]) rfl rfl (s20 _ hy56 rfl _))) ?_
          refine WO.go0 rfl rfl ?_
          refine WS (v := (.bool (!y56))) rfl (nz rfl rfl) ?_
          refine WS (v := (.bool (!y56))) rfl (nz rfl rfl) ?_
          refine WO.nil ?_
          obtain rfl := Option.some.inj h
          exact ⟨(kc rfl (kc rfl known_nil)), (H.sub (.cons_cons _ (.cons_cons _ .slnil)) .slnil (.cons_cons _ .slnil)), rfl⟩
        ·rintro σ S e ⟨hk, H, rfl⟩
         replace h := hOy54
         refine WO.of_known hk ?_
         refine WS (v := .bool y54) rfl (nz rfl rfl) ?_
         obtain ⟨y65, hy65, hOy65⟩ := bindS h
         refine WO.split 5 (fun σ' S' e' => Known ([(76, (.bool y65))]) σ' ∧ Hp [] [] S' [(i15, .cells [(.int .i64 y14.1.Kind), (.str y14.1.Attr), (.str y14.1.Value), (encSl eS y14.1.Subs), (encSl e_Api_Filter y14.1.Kids)]), (i1, .cells [(.int .i64 a0.Kind), (.str a0.Attr), (.str a0.Value), (encSl eS a0.Subs), (encSl e_Api_Filter a0.Kids)])] [] [(v26, rowO (eI .u8) 1 true (Sl.set (Str.bytes y13) z25 a2))] ∧ e' = false) ?_ ?_
         ·replace h := hy65
          revert H
          cases hc68 : y54
          ·intro H
           replace h := iteF h hc68
           refine WO.by rfl rfl rfl ?_
           refine WO.by rfl rfl rfl ?_
           refine WO.by rfl rfl rfl ?_
           refine WO.by rfl rfl rfl ?_
           refine WS (v := .bool false) rfl (nz rfl rfl) ?_
           refine WO.nil ?_
           obtain rfl := Option.some.inj h
           exact ⟨(kc rfl known_nil), (H.sub (.cons_cons _ (.cons_cons _ .slnil)) .slnil (.cons_cons _ .slnil)), rfl⟩
          ·intro H
           replace h := iteT h hc68
           refine WO.go0 rfl rfl ?_
           refine WS (v := .str y13) rfl (nz rfl rfl) ?_
           refine WO.go0 rfl rfl ?_
           obtain ⟨z66, hz66, h⟩ := bindS h
           refine WS (v := .str z66) rfl (nz rfl (stp_strApp rfl rfl hz66)) ?_
           refine WO.go0 rfl rfl ?_
           obtain ⟨y67, hy67, h⟩ := bindS h
           refine WS (v := .bool y67) rfl (nz rfl (stp_call (vs := [(.str z66)]) rfl rfl (s20 _ hy67 rfl _))) ?_
           refine WO.go0 rfl rfl ?_
           refine WS (v := (.bool (!y67))) rfl (nz rfl rfl) ?_
           refine WS (v := (.bool (!y67))) rfl (nz rfl rfl) ?_
           refine WO.nil ?_
           obtain rfl := Option.some.inj h
           exact ⟨(kc rfl known_nil), (H.sub (.cons_cons _ (.cons_cons _ .slnil)) .slnil (.cons_cons _ .slnil)), rfl⟩
         ·rintro σ S e ⟨hk, H, rfl⟩
          replace h := hOy65
          refine WO.of_known hk ?_
          refine WS (v := .bool y65) rfl (nz rfl rfl) ?_
          refine WO.nil ?_
          refine WC.ret ?_
          obtain rfl := Option.some.inj h
          refine KB.ret (vs := [(.bool y65)]) (res_tmp rfl res_nil) (fl_cons' rfl rfl) ?_
          exact rfl
end Go.Proofs.Ythkjepoaddfoiaa.M
