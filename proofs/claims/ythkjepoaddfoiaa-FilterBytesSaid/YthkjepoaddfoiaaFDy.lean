/- Part of the proof: the runs of functions on the abstract machine. -/
import Derived.Test.YthkjepoaddfoiaaPamM4
import Derived.Test.YthkjepoaddfoiaaFns
import Derived.Test.YthkjepoaddfoiaaFDe
import Derived.Test.YthkjepoaddfoiaaFDc
import Derived.Test.YthkjepoaddfoiaaFDc1
import Derived.Test.YthkjepoaddfoiaaFDr
namespace Go.Proofs.Ythkjepoaddfoiaa.M
open Go Go.Pam Go.RowKit Go.WideShapes
set_option maxRecDepth 4000
set_option linter.unusedVariables false
set_option linter.unusedSimpArgs false

def F7 (k : Nat) (a0 : Int) (a1 : Int) (a2 : Int) : Option Bool :=
 Option.bind (F8 k ) fun y1 =>
 if !y1 then
 some false
 else
 Option.bind (rem? a2 4) fun z5 =>
 Option.bind (if z5 == 1 then
 some (Api_Filter.mk 5 [115, 110] (Str.of (some [a0, a1])) none none)
 else
 Option.bind (if z5 == 2 then
 some (Api_Filter.mk 6 [115, 110] (Str.of (some [a0, a1])) none none)
 else
 Option.bind (if z5 == 3 then
 some (Api_Filter.mk 8 [115, 110] [] (some [Str.of (some [a0, a1]), Str.of (some [a1]), []]) none)
 else
 some (Api_Filter.mk 4 [115, 110] (Str.of (some [a0, a1])) none none)) fun y262 =>
 some y262) fun y253 =>
 some y253) fun y224 =>
 Option.bind (F13 k y224) fun y270 =>
 Option.bind (F18 k y270) fun y271 =>
 Option.bind (F12 k y224) fun y273 =>
 Option.bind (if y273 && (y271.2 == 0) then
 Option.bind (F17 k y224 y271.1) fun y280 =>
 some y280
 else
 some false) fun y279 =>
 some y279
theorem s7 : ∀ k : Nat, ∀ {a0 : Int} {a1 : Int} {a2 : Int} {r : Bool}, F7 k a0 a1 a2 = some r → ∀ {vs : List PV}, vs.map PV.strip = [(.int .u8 a0), (.int .u8 a1), (.int .u8 a2)] → ∀ S : List SObj, evw env 7 vs S = some ((.bool r), S, false) := by
 intro k a0 a1 a2 r h vs ha S
 unfold F7 at h
 refine evw_pureW (pf := fn7) rfl rfl ha (Nat.le_of_ble_eq_true rfl) rfl rfl ?_
 refine WB.of (pf := fn7) rfl ?_
 have H := Hp.start []
 refine WC.seqR ?_
 refine WO.step (v := (.bool false)) rfl (nz rfl rfl) ?_
 refine WO.nil ?_
 refine WC.seq ?_
 refine WC.seqR ?_
 obtain ⟨y1, hy1, h⟩ := bindS h
 refine WO.step (v := (.bool y1)) rfl (nz rfl (stp_call (vs := []) rfl rfl (s8 _ hy1 rfl _))) ?_
 refine WO.step (v := (.bool (!y1))) rfl (nz rfl rfl) ?_
 refine WO.nil ?_
 rcases iteS h with ⟨hc282, h⟩ | ⟨hc282, h⟩
 ·refine WC.condT rfl hc282 ?_
  refine WC.seqR ?_
  refine WO.step (v := (.bool false)) rfl (nz rfl rfl) ?_
  refine WO.nil ?_
  refine WC.ret ?_
  refine KX.seq_r ?_
  obtain rfl := Option.some.inj h
  refine KB.ret (vs := [(.bool false)]) (res_tmp rfl res_nil) (fl_cons' rfl rfl) ?_
  exact rfl
 ·refine WC.condF rfl hc282 ?_
  refine WC.skip ?_
  refine KX.seq_n ?_
  refine WC.seqR ?_
  refine WO.step (v := (.int .u8 a0)) rfl (nz rfl rfl) ?_
  refine WO.step (v := (.int .u8 a1)) rfl (nz rfl rfl) ?_
  refine WO.step rfl (nz rfl (stp_buildSlice (ys := [a0, a1]) (f := (eI .u8)) (parts := [(0, (.int .u8 a0)), (1, (.int .u8 a1))]) rfl rfl rfl rfl rfl rfl (fc ⟨rfl, rfl⟩ (fc ⟨rfl, rfl⟩ (fun p hp => nomatch hp))) rfl)) ?_
  have hv3 : IsSl (eI .u8) (some [a0, a1]) _ := ⟨.full, rfl⟩
  refine WO.step (v := (.str (Str.of (some [a0, a1])))) rfl (nz (fz_tmp' hv3.frz rfl) (stp_text rfl hv3 rfl rfl rfl)) ?_
  refine WO.step (v := (.str (Str.of (some [a0, a1])))) rfl (nz rfl rfl) ?_
  refine WO.nil ?_
  refine WC.seqR ?_
  refine WO.step (v := (.str (Str.of (some [a0, a1])))) rfl (nz rfl rfl) ?_
  refine WO.step (v := (.agg [(.int .i64 4), (.str [115, 110]), (.str (Str.of (some [a0, a1]))), .nils, .nils])) rfl (nz rfl (stp_build (ti := ty25) rfl rfl rfl rfl rfl (fill_cons rfl rfl rfl rfl (Nat.le_of_ble_eq_true rfl) rfl (fill_cons rfl rfl rfl rfl (Nat.le_of_ble_eq_true rfl) rfl (fill_cons rfl rfl rfl rfl (Nat.le_of_ble_eq_true rfl) rfl rfl))))) ?_
  refine WO.alloc' (ti := ty25) rfl rfl rfl rfl H ?_
  intro i4 S hi4 H
  refine WO.store 0 rfl rfl H rfl rfl rfl rfl rfl rfl rfl (Nat.le_of_ble_eq_true rfl) rfl (own_e hi4) ?_
  intro S H
  replace H : Hp [] [] _ [(i4, .cells [(.int .i64 4), (.str [115, 110]), (.str (Str.of (some [a0, a1]))), .nils, .nils])] [] [] := H
  refine WO.nil ?_
  refine WC.seq ?_
  refine WC.seqR ?_
  refine WO.step (v := (.int .u8 a2)) rfl (nz rfl rfl) ?_
  obtain ⟨z5, hz5, h⟩ := bindS h
  refine WO.step (v := (.int .u8 z5)) rfl (nz rfl (stp_rem rfl rfl hz5)) ?_
  refine WO.nil ?_
  refine WC.block ?_
  refine WC.seqR ?_
  refine WO.step (v := (.bool (z5 == 1))) rfl (nz rfl rfl) ?_
  refine WO.step (v := (.bool (z5 == 1))) rfl (nz rfl rfl) ?_
  refine WO.nil ?_
  obtain ⟨y224, hy224, hOy224⟩ := bindS h
  refine WC.join (fun σ' S' e' => ∃ v225, ∃ v226, IsSl eS y224.Subs v225 ∧ IsSl e_Api_Filter y224.Kids v226 ∧ Known ([(8, (.ptr i4 0))]) σ' ∧ Hp [] [] S' [(i4, .cells [(.int .i64 y224.Kind), (.str y224.Attr), (.str y224.Value), v225, v226])] [] [] ∧ e' = false) ?_ ?_
  ·replace h := hy224
   rcases iteS h with ⟨hc269, h⟩ | ⟨hc269, h⟩
   ·refine WC.condT rfl hc269 ?_
    refine WC.region ?_
    refine WO.step (v := (.ptr i4 0)) rfl (nz rfl rfl) ?_
    refine WO.store 0 rfl rfl H rfl rfl rfl rfl rfl rfl rfl (Nat.le_of_ble_eq_true rfl) rfl (own_e hi4) ?_
    intro S H
    replace H : Hp [] [] _ [(i4, .cells [(.int .i64 5), (.str [115, 110]), (.str (Str.of (some [a0, a1]))), .nils, .nils])] [] [] := H
    refine WO.nil ?_
    refine KX.seq_n ?_
    obtain rfl := Option.some.inj h
    exact ⟨.nils, .nils, (isSl_nil _), (isSl_nil _), (known_cons rfl known_nil), (H.sub (.cons_cons _ .slnil) .slnil .slnil), rfl⟩
   ·refine WC.condF rfl hc269 ?_
    refine WC.seqR ?_
    refine WO.step (v := (.bool (z5 == 2))) rfl (nz rfl rfl) ?_
    refine WO.step (v := (.bool (z5 == 2))) rfl (nz rfl rfl) ?_
    refine WO.nil ?_
    obtain ⟨y253, hy253, hOy253⟩ := bindS h
    refine WC.join (fun σ' S' e' => ∃ v254, ∃ v255, IsSl eS y253.Subs v254 ∧ IsSl e_Api_Filter y253.Kids v255 ∧ Known ([(8, (.ptr i4 0))]) σ' ∧ Hp [] [] S' [(i4, .cells [(.int .i64 y253.Kind), (.str y253.Attr), (.str y253.Value), v254, v255])] [] [] ∧ e' = false) ?_ ?_
    ·replace h := hy253
     rcases iteS h with ⟨hc268, h⟩ | ⟨hc268, h⟩
     ·refine WC.condT rfl hc268 ?_
      refine WC.region ?_
      refine WO.step (v := (.ptr i4 0)) rfl (nz rfl rfl) ?_
      refine WO.store 0 rfl rfl H rfl rfl rfl rfl rfl rfl rfl (Nat.le_of_ble_eq_true rfl) rfl (own_e hi4) ?_
      intro S H
      replace H : Hp [] [] _ [(i4, .cells [(.int .i64 6), (.str [115, 110]), (.str (Str.of (some [a0, a1]))), .nils, .nils])] [] [] := H
      refine WO.nil ?_
      refine KX.seq_n ?_
      obtain rfl := Option.some.inj h
      exact ⟨.nils, .nils, (isSl_nil _), (isSl_nil _), (known_cons rfl known_nil), (H.sub (.cons_cons _ .slnil) .slnil .slnil), rfl⟩
     ·refine WC.condF rfl hc268 ?_
      refine WC.seqR ?_
      refine WO.step (v := (.bool (z5 == 3))) rfl (nz rfl rfl) ?_
      refine WO.step (v := (.bool (z5 == 3))) rfl (nz rfl rfl) ?_
      refine WO.nil ?_
      obtain ⟨y262, hy262, hOy262⟩ := bindS h
      refine WC.join (fun σ' S' e' => ∃ v263, ∃ v264, IsSl eS y262.Subs v263 ∧ IsSl e_Api_Filter y262.Kids v264 ∧ Known ([(8, (.ptr i4 0))]) σ' ∧ Hp [] [] S' [(i4, .cells [(.int .i64 y262.Kind), (.str y262.Attr), (.str y262.Value), v263, v264])] [] [] ∧ e' = false) ?_ ?_
      ·replace h := hy262
       rcases iteS h with ⟨hc267, h⟩ | ⟨hc267, h⟩
       ·refine WC.condT rfl hc267 ?_
        refine WC.region ?_
        refine WO.step (v := (.str (Str.of (some [a0, a1])))) rfl (nz rfl rfl) ?_
        refine WO.step (v := (.int .u8 a1)) rfl (nz rfl rfl) ?_
        refine WO.step rfl (nz rfl (stp_buildSlice (ys := [a1]) (f := (eI .u8)) (parts := [(0, (.int .u8 a1))]) rfl rfl rfl rfl rfl rfl (fc ⟨rfl, rfl⟩ (fun p hp => nomatch hp)) rfl)) ?_
        have hv265 : IsSl (eI .u8) (some [a1]) _ := ⟨.full, rfl⟩
        refine WO.step (v := (.str (Str.of (some [a1])))) rfl (nz (fz_tmp' hv265.frz rfl) (stp_text rfl hv265 rfl rfl rfl)) ?_
        refine WO.step rfl (nz rfl (stp_buildSlice (ys := [Str.of (some [a0, a1]), Str.of (some [a1]), []]) (f := eS) (parts := [(0, (.str (Str.of (some [a0, a1])))), (1, (.str (Str.of (some [a1])))), (2, (.str []))]) rfl rfl rfl rfl rfl rfl (fc ⟨rfl, rfl⟩ (fc ⟨rfl, rfl⟩ (fc ⟨rfl, rfl⟩ (fun p hp => nomatch hp)))) rfl)) ?_
        have hv266 : IsSl eS (some [Str.of (some [a0, a1]), Str.of (some [a1]), []]) _ := ⟨.full, rfl⟩
        refine WO.step (v := (.agg [(.int .i64 8), (.str [115, 110]), (.str []), (.lst (List.map eS [Str.of (some [a0, a1]), Str.of (some [a1]), []]) .full), .nils])) rfl (nz (fz_oth' (fun _ h => by cases h) (fz_oth' (fun _ h => by cases h) (fz_tmp' hv266.frz rfl))) (stp_build (ti := ty25) rfl rfl rfl rfl rfl (fill_cons rfl rfl rfl rfl (Nat.le_of_ble_eq_true rfl) rfl (fill_cons rfl rfl rfl rfl (Nat.le_of_ble_eq_true rfl) rfl (fill_cons rfl hv266.one.1 hv266.one.2 rfl (Nat.le_of_ble_eq_true rfl) rfl rfl))))) ?_
        refine WO.store 0 rfl rfl H rfl rfl rfl rfl rfl rfl rfl (Nat.le_of_ble_eq_true rfl) rfl (own_e hi4) ?_
        intro S H
        replace H : Hp [] [] _ [(i4, .cells [(.int .i64 8), (.str [115, 110]), (.str []), (.lst (List.map eS [Str.of (some [a0, a1]), Str.of (some [a1]), []]) .full), .nils])] [] [] := H
        refine WO.nil ?_
        refine KX.seq_n ?_
        obtain rfl := Option.some.inj h
        exact ⟨(.lst (List.map eS [Str.of (some [a0, a1]), Str.of (some [a1]), []]) .full), .nils, hv266, (isSl_nil _), (known_cons rfl known_nil), (H.sub (.cons_cons _ .slnil) .slnil .slnil), rfl⟩
       ·refine WC.condF rfl hc267 ?_
        refine WC.skip ?_
        refine KX.seq_n ?_
        obtain rfl := Option.some.inj h
        exact ⟨.nils, .nils, (isSl_nil _), (isSl_nil _), (known_cons rfl known_nil), (H.sub (.cons_cons _ .slnil) .slnil .slnil), rfl⟩
      ·rintro σ S e ⟨v263, v264, hv263, hv264, hk, H, rfl⟩
       replace h := hOy262
       refine KX.of_known hk ?_
       refine KX.seq_n ?_
       obtain rfl := Option.some.inj h
       exact ⟨v263, v264, hv263, hv264, (known_cons rfl known_nil), (H.sub (.cons_cons _ .slnil) .slnil .slnil), rfl⟩
    ·rintro σ S e ⟨v254, v255, hv254, hv255, hk, H, rfl⟩
     replace h := hOy253
     refine KX.of_known hk ?_
     refine KX.seq_n ?_
     obtain rfl := Option.some.inj h
     exact ⟨v254, v255, hv254, hv255, (known_cons rfl known_nil), (H.sub (.cons_cons _ .slnil) .slnil .slnil), rfl⟩
  ·rintro σ S e ⟨v225, v226, hv225, hv226, hk, H, rfl⟩
   replace h := hOy224
   refine KX.of_known hk ?_
   refine KX.block_n ?_
   refine KX.seq_n ?_
   refine WC.seqR ?_
   refine WO.step (v := (.agg [(.int .i64 y224.Kind), (.str y224.Attr), (.str y224.Value), v225, v226])) rfl (nz rfl (stp_load rfl (H.get 0 rfl) rfl)) ?_
   obtain ⟨y270, hy270, h⟩ := bindS h
   refine WO.step (v := (.str y270)) rfl (nz rfl (stp_call (vs := [(.agg [(.int .i64 y224.Kind), (.str y224.Attr), (.str y224.Value), v225, v226])]) rfl rfl (s13 _ hy270 (by simp only [st_agg, List.map_cons, List.map_nil, st1_int, st1_str, hv225.strip1, hv226.strip1, e_Api_Filter_eq, tupled]) _))) ?_
   obtain ⟨y271, hy271, h⟩ := bindS h
   refine WO.step (v := (.tup [(.agg [(.int .i64 y271.1.Kind), (.str y271.1.Attr), (.str y271.1.Value), (encSl eS y271.1.Subs), (encSl e_Api_Filter y271.1.Kids)]), (.int .i64 y271.2)])) rfl (nz rfl (stp_call (vs := [(.str y270)]) rfl rfl (s18 _ hy271 rfl _))) ?_
   refine WO.step (v := (.tup [(.agg [(.int .i64 y271.1.Kind), (.str y271.1.Attr), (.str y271.1.Value), (encSl eS y271.1.Subs), (encSl e_Api_Filter y271.1.Kids)]), (.int .i64 y271.2)])) rfl (nz rfl rfl) ?_
   refine WO.step (v := (.agg [(.int .i64 y271.1.Kind), (.str y271.1.Attr), (.str y271.1.Value), (encSl eS y271.1.Subs), (encSl e_Api_Filter y271.1.Kids)])) rfl (nz rfl rfl) ?_
   refine WO.step (v := (.int .i64 y271.2)) rfl (nz rfl rfl) ?_
   refine WO.alloc' (ti := ty25) rfl rfl rfl rfl H ?_
   intro i272 S hi272 H
   refine WO.store 0 rfl rfl H rfl rfl rfl rfl rfl rfl rfl (Nat.le_of_ble_eq_true rfl) rfl (own_e hi272) ?_
   intro S H
   replace H : Hp [] [] _ [(i272, .cells [(.int .i64 y271.1.Kind), (.str y271.1.Attr), (.str y271.1.Value), (encSl eS y271.1.Subs), (encSl e_Api_Filter y271.1.Kids)]), (i4, .cells [(.int .i64 y224.Kind), (.str y224.Attr), (.str y224.Value), v225, v226])] [] [] := H
   refine WO.step (v := (.int .i64 y271.2)) rfl (nz rfl rfl) ?_
   refine WO.nil ?_
   refine WC.seqR ?_
   refine WO.step (v := (.agg [(.int .i64 y224.Kind), (.str y224.Attr), (.str y224.Value), v225, v226])) rfl (nz rfl (stp_load rfl (H.get 1 rfl) rfl)) ?_
   obtain ⟨y273, hy273, h⟩ := bindS h
   refine WO.step (v := (.bool y273)) rfl (nz rfl (stp_call (vs := [(.agg [(.int .i64 y224.Kind), (.str y224.Attr), (.str y224.Value), v225, v226])]) rfl rfl (s12 _ hy273 (by simp only [st_agg, List.map_cons, List.map_nil, st1_int, st1_str, hv225.strip1, hv226.strip1, e_Api_Filter_eq, tupled]) _))) ?_
   refine WO.step (v := (.bool y273)) rfl (nz rfl rfl) ?_
   refine WO.split 3 (fun σ' S' e' => Known ([(8, (.ptr i4 0)), (9, (.ptr i272 0)), (46, (.bool (y273 && (y271.2 == 0))))]) σ' ∧ Hp [] [] S' [(i272, .cells [(.int .i64 y271.1.Kind), (.str y271.1.Attr), (.str y271.1.Value), (encSl eS y271.1.Subs), (encSl e_Api_Filter y271.1.Kids)]), (i4, .cells [(.int .i64 y224.Kind), (.str y224.Attr), (.str y224.Value), v225, v226])] [] [] ∧ e' = false) ?_ ?_
   ·revert H
    cases hc274 : y273
    ·intro H
     refine WO.by rfl rfl rfl ?_
     refine WO.by rfl rfl rfl ?_
     refine WO.step (v := (.bool false)) rfl (nz rfl rfl) ?_
     refine WO.nil ?_
     exact ⟨(known_cons rfl (known_cons rfl (known_cons rfl known_nil))), H, rfl⟩
    ·intro H
     refine WO.go0 rfl rfl ?_
     refine WO.step (v := (.int .i64 y271.2)) rfl (nz rfl rfl) ?_
     refine WO.go0 rfl rfl ?_
     refine WO.step (v := (.bool (y271.2 == 0))) rfl (nz rfl rfl) ?_
     refine WO.step (v := (.bool (y271.2 == 0))) rfl (nz rfl rfl) ?_
     refine WO.nil ?_
     exact ⟨(known_cons rfl (known_cons rfl (known_cons rfl known_nil))), H, rfl⟩
   ·rintro σ S e ⟨hk, H, rfl⟩
    refine WO.of_known hk ?_
    refine WO.step (v := (.bool (y273 && (y271.2 == 0)))) rfl (nz rfl rfl) ?_
    obtain ⟨y279, hy279, hOy279⟩ := bindS h
    refine WO.split 4 (fun σ' S' e' => Known ([(51, (.bool y279))]) σ' ∧ Hp [] [] S' [(i272, .cells [(.int .i64 y271.1.Kind), (.str y271.1.Attr), (.str y271.1.Value), (encSl eS y271.1.Subs), (encSl e_Api_Filter y271.1.Kids)]), (i4, .cells [(.int .i64 y224.Kind), (.str y224.Attr), (.str y224.Value), v225, v226])] [] [] ∧ e' = false) ?_ ?_
    ·replace h := hy279
     revert H
     cases hc281 : (y273 && (y271.2 == 0))
     ·intro H
      replace h := iteF h hc281
      refine WO.by rfl rfl rfl ?_
      refine WO.by rfl rfl rfl ?_
      refine WO.by rfl rfl rfl ?_
      refine WO.step (v := (.bool false)) rfl (nz rfl rfl) ?_
      refine WO.nil ?_
      obtain rfl := Option.some.inj h
      exact ⟨(known_cons rfl known_nil), (H.sub (.cons_cons _ (.cons_cons _ .slnil)) .slnil .slnil), rfl⟩
     ·intro H
      replace h := iteT h hc281
      refine WO.go0 rfl rfl ?_
      refine WO.step (v := (.agg [(.int .i64 y224.Kind), (.str y224.Attr), (.str y224.Value), v225, v226])) rfl (nz rfl (stp_load rfl (H.get 1 rfl) rfl)) ?_
      refine WO.go0 rfl rfl ?_
      refine WO.step (v := (.agg [(.int .i64 y271.1.Kind), (.str y271.1.Attr), (.str y271.1.Value), (encSl eS y271.1.Subs), (encSl e_Api_Filter y271.1.Kids)])) rfl (nz rfl (stp_load rfl (H.get 0 rfl) rfl)) ?_
      refine WO.go0 rfl rfl ?_
      obtain ⟨y280, hy280, h⟩ := bindS h
      refine WO.step (v := (.bool y280)) rfl (nz rfl (stp_call (vs := [(.agg [(.int .i64 y224.Kind), (.str y224.Attr), (.str y224.Value), v225, v226]), (.agg [(.int .i64 y271.1.Kind), (.str y271.1.Attr), (.str y271.1.Value), (encSl eS y271.1.Subs), (encSl e_Api_Filter y271.1.Kids)])]) rfl rfl (s17 _ hy280 (by simp only [st_agg, List.map_cons, List.map_nil, st1_int, st1_str, hv225.strip1, hv226.strip1, e_Api_Filter_eq, strip1_enc, tupled]) _))) ?_
      refine WO.step (v := (.bool y280)) rfl (nz rfl rfl) ?_
      refine WO.nil ?_
      obtain rfl := Option.some.inj h
      exact ⟨(known_cons rfl known_nil), (H.sub (.cons_cons _ (.cons_cons _ .slnil)) .slnil .slnil), rfl⟩
    ·rintro σ S e ⟨hk, H, rfl⟩
     replace h := hOy279
     refine WO.of_known hk ?_
     refine WO.step (v := (.bool y279)) rfl (nz rfl rfl) ?_
     refine WO.nil ?_
     refine WC.ret ?_
     obtain rfl := Option.some.inj h
     refine KB.ret (vs := [(.bool y279)]) (res_tmp rfl res_nil) (fl_cons' rfl rfl) ?_
     exact rfl
end Go.Proofs.Ythkjepoaddfoiaa.M
