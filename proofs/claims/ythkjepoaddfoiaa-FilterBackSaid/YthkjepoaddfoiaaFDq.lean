/- Part of the proof: the runs of functions on the abstract machine. -/
import Derived.Test.YthkjepoaddfoiaaPamM4
import Derived.Test.YthkjepoaddfoiaaFns
import Derived.Test.YthkjepoaddfoiaaFDe
import Derived.Test.YthkjepoaddfoiaaFDc
import Derived.Test.YthkjepoaddfoiaaFDc1
import Derived.Test.YthkjepoaddfoiaaFDr
namespace Go.Proofs.Ythkjepoaddfoiaa.M
open Go Go.Pam Go.RowKit Go.WideShapes
set_option maxRecDepth 4000
set_option linter.unusedVariables false
set_option linter.unusedSimpArgs false

def F19 (k : Nat) (a0 : Str) : Option Bool :=
 Option.bind (F18 k a0) fun y1 =>
 if y1.2 != 0 then
 Option.bind (if y1.2 == 18 then
 Option.bind (F17 k y1.1 (Api_Filter.mk 0 [] [] none none)) fun y16 =>
 some y16
 else
 some false) fun y15 =>
 some y15
 else
 Option.bind (F12 k y1.1) fun y18 =>
 Option.bind (if y18 then
 Option.bind (F13 k y1.1) fun y24 =>
 some (y24 == a0)
 else
 some false) fun y23 =>
 Option.bind (if y23 then
 Option.bind (F11 k y1.1) fun y31 =>
 some (y31 == a0)
 else
 some false) fun y30 =>
 some y30
theorem s19 : ∀ k : Nat, ∀ {a0 : Str} {r : Bool}, F19 k a0 = some r → ∀ {vs : List PV}, vs.map PV.strip = [(.str a0)] → ∀ S : List SObj, evw env 19 vs S = some ((.bool r), S, false) := by
 intro k a0 r h vs ha S
 unfold F19 at h
 refine evw_pureW (pf := fn19) rfl rfl ha (Nat.le_of_ble_eq_true rfl) rfl rfl ?_
 refine WB.of (pf := fn19) rfl ?_
 have H := Hp.start []
 refine WC.seqR ?_
 refine WS (v := .bool false) rfl (nz rfl rfl) ?_
 refine WO.nil ?_
 refine WC.seqR ?_
 refine WS (v := .str a0) rfl (nz rfl rfl) ?_
 obtain ⟨y1, hy1, h⟩ := bindS h
 refine WS (v := (.tup [(.agg [(.int .i64 y1.1.Kind), (.str y1.1.Attr), (.str y1.1.Value), (encSl eS y1.1.Subs), (encSl e_Api_Filter y1.1.Kids)]), (.int .i64 y1.2)])) rfl (nz rfl (stp_call (vs := [(.str a0)]) rfl rfl (s18 _ hy1 rfl _))) ?_
 refine WS (v := (.tup [(.agg [(.int .i64 y1.1.Kind), (.str y1.1.Attr), (.str y1.1.Value), (encSl eS y1.1.Subs), (encSl e_Api_Filter y1.1.Kids)]), (.int .i64 y1.2)])) rfl (nz rfl rfl) ?_
 refine WS (v := (.agg [(.int .i64 y1.1.Kind), (.str y1.1.Attr), (.str y1.1.Value), (encSl eS y1.1.Subs), (encSl e_Api_Filter y1.1.Kids)])) rfl (nz rfl rfl) ?_
 refine WS (v := .int .i64 y1.2) rfl (nz rfl rfl) ?_
 refine WO.alloc' (ti := ty25) rfl rfl rfl rfl H ?_
 intro i2 S hi2 H
 refine WO.store 0 rfl rfl H rfl rfl rfl rfl rfl rfl rfl (Nat.le_of_ble_eq_true rfl) rfl (own_e hi2) ?_
 intro S H
 replace H : Hp [] [] _ [(i2, .cells [(.int .i64 y1.1.Kind), (.str y1.1.Attr), (.str y1.1.Value), (encSl eS y1.1.Subs), (encSl e_Api_Filter y1.1.Kids)])] [] [] := H
 refine WS (v := .int .i64 y1.2) rfl (nz rfl rfl) ?_
 refine WO.nil ?_
 refine WC.seq ?_
 refine WC.seqR ?_
 refine WS (v := .int .i64 y1.2) rfl (nz rfl rfl) ?_
 refine WS (v := (.bool (y1.2 != 0))) rfl (nz rfl rfl) ?_
 refine WO.nil ?_
 rcases iteS h with ⟨hc33, h⟩ | ⟨hc33, h⟩
 ·refine WC.condT rfl hc33 ?_
  refine WC.seqR ?_
  refine WS (v := .int .i64 y1.2) rfl (nz rfl rfl) ?_
  refine WS (v := (.bool (y1.2 == 18))) rfl (nz rfl rfl) ?_
  refine WS (v := (.bool (y1.2 == 18))) rfl (nz rfl rfl) ?_
  obtain ⟨y15, hy15, hOy15⟩ := bindS h
  refine WO.split 4 (fun σ' S' e' => Known ([(18, (.bool y15))]) σ' ∧ Hp [] [] S' [(i2, .cells [(.int .i64 y1.1.Kind), (.str y1.1.Attr), (.str y1.1.Value), (encSl eS y1.1.Subs), (encSl e_Api_Filter y1.1.Kids)])] [] [] ∧ e' = false) ?_ ?_
  ·replace h := hy15
   revert H
   cases hc17 : (y1.2 == 18)
   ·intro H
    replace h := iteF h hc17
    refine WO.by rfl rfl rfl ?_
    refine WO.by rfl rfl rfl ?_
    refine WO.by rfl rfl rfl ?_
    refine WS (v := .bool false) rfl (nz rfl rfl) ?_
    refine WO.nil ?_
    obtain rfl := Option.some.inj h
    exact ⟨(kc rfl known_nil), (H.sub (.cons_cons _ .slnil) .slnil .slnil), rfl⟩
   ·intro H
    replace h := iteT h hc17
    refine WO.go0 rfl rfl ?_
    refine WS (v := (.agg [(.int .i64 y1.1.Kind), (.str y1.1.Attr), (.str y1.1.Value), (encSl eS y1.1.Subs), (encSl e_Api_Filter y1.1.Kids)])) rfl (nz rfl (stp_load rfl (H.get 0 rfl) rfl)) ?_
    refine WO.go0 rfl rfl ?_
    refine WS (v := (.agg [(.int .i64 0), (.str []), (.str []), .nils, .nils])) rfl (nz rfl (stp_build (ti := ty25) rfl rfl rfl rfl rfl rfl)) ?_
    refine WO.go0 rfl rfl ?_
    obtain ⟨y16, hy16, h⟩ := bindS h
    refine WS (v := .bool y16) rfl (nz rfl (stp_call (vs := [(.agg [(.int .i64 y1.1.Kind), (.str y1.1.Attr), (.str y1.1.Value), (encSl eS y1.1.Subs), (encSl e_Api_Filter y1.1.Kids)]), (.agg [(.int .i64 0), (.str []), (.str []), .nils, .nils])]) rfl rfl (s17 _ hy16 (by simp only [st_agg, List.map_cons, List.map_nil, st1_int, st1_str, strip1_enc, e_Api_Filter_eq, st1_nils, encSl_none, tupled]) _))) ?_
    refine WS (v := .bool y16) rfl (nz rfl rfl) ?_
    refine WO.nil ?_
    obtain rfl := Option.some.inj h
    exact ⟨(kc rfl known_nil), (H.sub (.cons_cons _ .slnil) .slnil .slnil), rfl⟩
  ·rintro σ S e ⟨hk, H, rfl⟩
   replace h := hOy15
   refine WO.of_known hk ?_
   refine WS (v := .bool y15) rfl (nz rfl rfl) ?_
   refine WO.nil ?_
   refine WC.ret ?_
   refine KX.seq_r ?_
   obtain rfl := Option.some.inj h
   refine KB.ret (vs := [(.bool y15)]) (res_tmp rfl res_nil) (fl_cons' rfl rfl) ?_
   exact rfl
 ·refine WC.condF rfl hc33 ?_
  refine WC.skip ?_
  refine KX.seq_n ?_
  refine WC.seqR ?_
  refine WS (v := (.agg [(.int .i64 y1.1.Kind), (.str y1.1.Attr), (.str y1.1.Value), (encSl eS y1.1.Subs), (encSl e_Api_Filter y1.1.Kids)])) rfl (nz rfl (stp_load rfl (H.get 0 rfl) rfl)) ?_
  obtain ⟨y18, hy18, h⟩ := bindS h
  refine WS (v := .bool y18) rfl (nz rfl (stp_call (vs := [(.agg [(.int .i64 y1.1.Kind), (.str y1.1.Attr), (.str y1.1.Value), (encSl eS y1.1.Subs), (encSl e_Api_Filter y1.1.Kids)])]) rfl rfl (s12 _ hy18 (by simp only [st_agg, List.map_cons, List.map_nil, st1_int, st1_str, strip1_enc, e_Api_Filter_eq, tupled]) _))) ?_
  refine WS (v := .bool y18) rfl (nz rfl rfl) ?_
  obtain ⟨y23, hy23, hOy23⟩ := bindS h
  refine WO.split 5 (fun σ' S' e' => Known ([(0, (.str a0)), (3, (.ptr i2 0)), (26, (.bool y23))]) σ' ∧ Hp [] [] S' [(i2, .cells [(.int .i64 y1.1.Kind), (.str y1.1.Attr), (.str y1.1.Value), (encSl eS y1.1.Subs), (encSl e_Api_Filter y1.1.Kids)])] [] [] ∧ e' = false) ?_ ?_
  ·replace h := hy23
   revert H
   cases hc25 : y18
   ·intro H
    replace h := iteF h hc25
    refine WO.by rfl rfl rfl ?_
    refine WO.by rfl rfl rfl ?_
    refine WO.by rfl rfl rfl ?_
    refine WO.by rfl rfl rfl ?_
    refine WS (v := .bool false) rfl (nz rfl rfl) ?_
    refine WO.nil ?_
    obtain rfl := Option.some.inj h
    exact ⟨(kc rfl (kc rfl (kc rfl known_nil))), (H.sub (.cons_cons _ .slnil) .slnil .slnil), rfl⟩
   ·intro H
    replace h := iteT h hc25
    refine WO.go0 rfl rfl ?_
    refine WS (v := (.agg [(.int .i64 y1.1.Kind), (.str y1.1.Attr), (.str y1.1.Value), (encSl eS y1.1.Subs), (encSl e_Api_Filter y1.1.Kids)])) rfl (nz rfl (stp_load rfl (H.get 0 rfl) rfl)) ?_
    refine WO.go0 rfl rfl ?_
    obtain ⟨y24, hy24, h⟩ := bindS h
    refine WS (v := .str y24) rfl (nz rfl (stp_call (vs := [(.agg [(.int .i64 y1.1.Kind), (.str y1.1.Attr), (.str y1.1.Value), (encSl eS y1.1.Subs), (encSl e_Api_Filter y1.1.Kids)])]) rfl rfl (s13 _ hy24 (by simp only [st_agg, List.map_cons, List.map_nil, st1_int, st1_str, strip1_enc, e_Api_Filter_eq, tupled]) _))) ?_
    refine WO.go0 rfl rfl ?_
    refine WS (v := .str a0) rfl (nz rfl rfl) ?_
    refine WO.go0 rfl rfl ?_
    refine WS (v := (.bool (y24 == a0))) rfl (nz rfl rfl) ?_
    refine WS (v := (.bool (y24 == a0))) rfl (nz rfl rfl) ?_
    refine WO.nil ?_
    obtain rfl := Option.some.inj h
    exact ⟨(kc rfl (kc rfl (kc rfl known_nil))), (H.sub (.cons_cons _ .slnil) .slnil .slnil), rfl⟩
  ·rintro σ S e ⟨hk, H, rfl⟩
   replace h := hOy23
   refine WO.of_known hk ?_
   refine WS (v := .bool y23) rfl (nz rfl rfl) ?_
   obtain ⟨y30, hy30, hOy30⟩ := bindS h
   refine WO.split 5 (fun σ' S' e' => Known ([(32, (.bool y30))]) σ' ∧ Hp [] [] S' [(i2, .cells [(.int .i64 y1.1.Kind), (.str y1.1.Attr), (.str y1.1.Value), (encSl eS y1.1.Subs), (encSl e_Api_Filter y1.1.Kids)])] [] [] ∧ e' = false) ?_ ?_
   ·replace h := hy30
    revert H
    cases hc32 : y23
    ·intro H
     replace h := iteF h hc32
     refine WO.by rfl rfl rfl ?_
     refine WO.by rfl rfl rfl ?_
     refine WO.by rfl rfl rfl ?_
     refine WO.by rfl rfl rfl ?_
     refine WS (v := .bool false) rfl (nz rfl rfl) ?_
     refine WO.nil ?_
     obtain rfl := Option.some.inj h
     exact ⟨(kc rfl known_nil), (H.sub (.cons_cons _ .slnil) .slnil .slnil), rfl⟩
    ·intro H
     replace h := iteT h hc32
     refine WO.go0 rfl rfl ?_
     refine WS (v := (.agg [(.int .i64 y1.1.Kind), (.str y1.1.Attr), (.str y1.1.Value), (encSl eS y1.1.Subs), (encSl e_Api_Filter y1.1.Kids)])) rfl (nz rfl (stp_load rfl (H.get 0 rfl) rfl)) ?_
     refine WO.go0 rfl rfl ?_
     obtain ⟨y31, hy31, h⟩ := bindS h
     refine WS (v := .str y31) rfl (nz rfl (stp_call (vs := [(.agg [(.int .i64 y1.1.Kind), (.str y1.1.Attr), (.str y1.1.Value), (encSl eS y1.1.Subs), (encSl e_Api_Filter y1.1.Kids)])]) rfl rfl (s11 _ hy31 (by simp only [st_agg, List.map_cons, List.map_nil, st1_int, st1_str, strip1_enc, e_Api_Filter_eq, tupled]) _))) ?_
     refine WO.go0 rfl rfl ?_
     refine WS (v := .str a0) rfl (nz rfl rfl) ?_
     refine WO.go0 rfl rfl ?_
     refine WS (v := (.bool (y31 == a0))) rfl (nz rfl rfl) ?_
     refine WS (v := (.bool (y31 == a0))) rfl (nz rfl rfl) ?_
     refine WO.nil ?_
     obtain rfl := Option.some.inj h
     exact ⟨(kc rfl known_nil), (H.sub (.cons_cons _ .slnil) .slnil .slnil), rfl⟩
   ·rintro σ S e ⟨hk, H, rfl⟩
    replace h := hOy30
    refine WO.of_known hk ?_
    refine WS (v := .bool y30) rfl (nz rfl rfl) ?_
    refine WO.nil ?_
    refine WC.ret ?_
    obtain rfl := Option.some.inj h
    refine KB.ret (vs := [(.bool y30)]) (res_tmp rfl res_nil) (fl_cons' rfl rfl) ?_
    exact rfl
def F20 (k : Nat) (a0 : Str) : Option Bool :=
 Option.bind (F18 k a0) fun y1 =>
 some (y1.2 == 0)
theorem s20 : ∀ k : Nat, ∀ {a0 : Str} {r : Bool}, F20 k a0 = some r → ∀ {vs : List PV}, vs.map PV.strip = [(.str a0)] → ∀ S : List SObj, evw env 20 vs S = some ((.bool r), S, false) := by
 intro k a0 r h vs ha S
 unfold F20 at h
 refine evw_pureW (pf := fn20) rfl rfl ha (Nat.le_of_ble_eq_true rfl) rfl rfl ?_
 refine WB.of (pf := fn20) rfl ?_
 have H := Hp.start []
 refine WC.seqR ?_
 refine WS (v := .bool false) rfl (nz rfl rfl) ?_
 refine WO.nil ?_
 refine WC.seqR ?_
 refine WS (v := .str a0) rfl (nz rfl rfl) ?_
 obtain ⟨y1, hy1, h⟩ := bindS h
 refine WS (v := (.tup [(.agg [(.int .i64 y1.1.Kind), (.str y1.1.Attr), (.str y1.1.Value), (encSl eS y1.1.Subs), (encSl e_Api_Filter y1.1.Kids)]), (.int .i64 y1.2)])) rfl (nz rfl (stp_call (vs := [(.str a0)]) rfl rfl (s18 _ hy1 rfl _))) ?_
 refine WS (v := (.tup [(.agg [(.int .i64 y1.1.Kind), (.str y1.1.Attr), (.str y1.1.Value), (encSl eS y1.1.Subs), (encSl e_Api_Filter y1.1.Kids)]), (.int .i64 y1.2)])) rfl (nz rfl rfl) ?_
 refine WS (v := (.agg [(.int .i64 y1.1.Kind), (.str y1.1.Attr), (.str y1.1.Value), (encSl eS y1.1.Subs), (encSl e_Api_Filter y1.1.Kids)])) rfl (nz rfl rfl) ?_
 refine WS (v := .int .i64 y1.2) rfl (nz rfl rfl) ?_
 refine WO.alloc' (ti := ty25) rfl rfl rfl rfl H ?_
 intro i2 S hi2 H
 refine WO.store 0 rfl rfl H rfl rfl rfl rfl rfl rfl rfl (Nat.le_of_ble_eq_true rfl) rfl (own_e hi2) ?_
 intro S H
 replace H : Hp [] [] _ [(i2, .cells [(.int .i64 y1.1.Kind), (.str y1.1.Attr), (.str y1.1.Value), (encSl eS y1.1.Subs), (encSl e_Api_Filter y1.1.Kids)])] [] [] := H
 refine WS (v := .int .i64 y1.2) rfl (nz rfl rfl) ?_
 refine WO.nil ?_
 refine WC.seqR ?_
 refine WS (v := .int .i64 y1.2) rfl (nz rfl rfl) ?_
 refine WS (v := (.bool (y1.2 == 0))) rfl (nz rfl rfl) ?_
 refine WS (v := (.bool (y1.2 == 0))) rfl (nz rfl rfl) ?_
 refine WO.nil ?_
 refine WC.ret ?_
 obtain rfl := Option.some.inj h
 refine KB.ret (vs := [(.bool (y1.2 == 0))]) (res_tmp rfl res_nil) (fl_cons' rfl rfl) ?_
 exact rfl
end Go.Proofs.Ythkjepoaddfoiaa.M
