/- Part of the proof: the runs of functions on the abstract machine. -/
import Derived.Test.YthkjepoaddfoiaaPamM4
import Derived.Test.YthkjepoaddfoiaaFns
import Derived.Test.YthkjepoaddfoiaaFDe
import Derived.Test.YthkjepoaddfoiaaFDc
import Derived.Test.YthkjepoaddfoiaaFDc1
import Derived.Test.YthkjepoaddfoiaaFDr
namespace Go.Proofs.Ythkjepoaddfoiaa.M
open Go Go.Pam Go.RowKit Go.WideShapes
set_option maxRecDepth 4000
set_option linter.unusedVariables false
set_option linter.unusedSimpArgs false

def F6_L0 (k : Nat) (a86 : Sl Int) (a87 : Int) : Nat → Int → Api_Filter → Option (Int × Api_Filter)
 | 0, _, _ => none
 | n + 1, x88, b89 =>
  if decide (x88 < a87) then
  Option.bind (if decide (x88 < (Sl.len a86)) then
  Option.bind (Sl.at? a86 x88) fun y122 =>
  Option.bind (rem? y122 3) fun z123 =>
  Option.bind (Sl.at? (some [1, 2, 3]) z123) fun y124 =>
  some y124
  else
  some 3) fun y120 =>
  F6_L0 k a86 a87 n (ad .i64 x88 1) (Api_Filter.mk y120 [] [] none (some [b89]))
  else
  some (x88, b89)
def F6 (k : Nat) (a0 : Int) (a1 : Sl Int) : Option Bool :=
 Option.bind (F8 k ) fun y1 =>
 if !y1 then
 some false
 else
 Option.bind (rem? a0 3) fun z4 =>
 Option.bind (F6_L0 k a1 (sb .i64 (ad .i64 (cv .i64 z4) 20) 2) k 0 (Api_Filter.mk 4 [99, 110] [97] none none)) fun y130 =>
 Option.bind (F11 k y130.2) fun y133 =>
 Option.bind (F18 k y133) fun y134 =>
 if decide ((ad .i64 (sb .i64 (ad .i64 (cv .i64 z4) 20) 2) 1) > 20) then
 Option.bind (if y134.2 == 18 then
 Option.bind (F12 k y130.2) fun y163 =>
 some (!y163)
 else
 some false) fun y162 =>
 Option.bind (if y162 then
 Option.bind (F13 k y130.2) fun y170 =>
 some (y170 == [])
 else
 some false) fun y169 =>
 Option.bind (if y169 then
 Option.bind (F14 k y130.2) fun y177 =>
 some (y177 == 21)
 else
 some false) fun y176 =>
 some y176
 else
 Option.bind (if y134.2 == 0 then
 Option.bind (F17 k y130.2 y134.1) fun y184 =>
 some y184
 else
 some false) fun y183 =>
 Option.bind (if y183 then
 Option.bind (F12 k y130.2) fun y191 =>
 some y191
 else
 some false) fun y190 =>
 Option.bind (if y190 then
 Option.bind (F14 k y130.2) fun y198 =>
 some (y198 == (ad .i64 (sb .i64 (ad .i64 (cv .i64 z4) 20) 2) 1))
 else
 some false) fun y197 =>
 some y197
theorem l6_L0 {k : Nat} {a86 : Sl Int} {a87 : Int} {S0 : List SObj} {R : List Nat} {K : KX} {i3 : Nat} (hi3 : S0.length ≤ i3)  {o : (Int × Api_Filter)}
  (hbrk : ∀ {σ' : Nat → PV} {S' : List SObj}, ∀ (v128 : PV) (_ : IsSl eS o.2.Subs v128), ∀ (v129 : PV) (_ : IsSl e_Api_Filter o.2.Kids v129), Known [(5, (.ptr i3 0)), (6, (.int .i64 a87))] σ' → Hp S0 R S' [(i3, .cells [(.int .i64 o.2.Kind), (.str o.2.Attr), (.str o.2.Value), v128, v129])] [] [] → K (.exit 0) σ' S' false) :
  ∀ {n : Nat} {x88 : Int} {b89 : Api_Filter}, F6_L0 k a86 a87 n x88 b89 = some o → ∀ {σ : Nat → PV} {S : List SObj}, ∀ (v90 : PV) (_ : IsSl eS b89.Subs v90), ∀ (v91 : PV) (_ : IsSl e_Api_Filter b89.Kids v91), Known [(1, (encSl (eI .u8) a86)), (5, (.ptr i3 0)), (6, (.int .i64 a87)), (7, (.int .i64 x88))] σ → Hp S0 R S [(i3, .cells [(.int .i64 b89.Kind), (.str b89.Attr), (.str b89.Value), v90, v91])] [] [] → WC env ⟨84, S0.length⟩ (.loop pc6L0) σ S false K := by
 intro n
 induction n with
 | zero => intro _ _ h; cases h
 | succ n ih =>
  intro x88 b89 h σ S v90 hv90 v91 hv91 hk H
  rw [F6_L0] at h
  refine WC.loop ?_
  refine WC.of_known hk ?_
  refine WC.seq ?_
  refine WC.seqR ?_
  refine WS (v := .int .i64 x88) rfl (nz rfl rfl) ?_
  refine WS (v := .int .i64 a87) rfl (nz rfl rfl) ?_
  refine WS (v := (.bool (decide (x88 < a87)))) rfl (nz rfl rfl) ?_
  refine WO.nil ?_
  rcases iteS h with ⟨hc127, h⟩ | ⟨hc127, h⟩
  ·refine WC.condT rfl hc127 ?_
   refine WC.skip ?_
   refine KX.seq_n ?_
   refine WC.seq ?_
   refine WC.block ?_
   refine WC.seqR ?_
   refine WS (v := .int .i64 3) rfl (nz rfl rfl) ?_
   refine WO.nil ?_
   refine WC.seq ?_
   refine WC.seqR ?_
   refine WS (v := .int .i64 x88) rfl (nz rfl rfl) ?_
   refine WS (v := (encSl (eI .u8) a86)) rfl (nz rfl rfl) ?_
   refine WS (v := (.int .i64 (Sl.len a86))) rfl (nz rfl (stp_len rfl (isSl_enc _ _) rfl)) ?_
   refine WS (v := (.bool (decide (x88 < (Sl.len a86))))) rfl (nz rfl rfl) ?_
   refine WO.nil ?_
   obtain ⟨y120, hy120, hOy120⟩ := bindS h
   refine WC.join (fun σ' S' e' => Known ([(1, (encSl (eI .u8) a86)), (5, (.ptr i3 0)), (6, (.int .i64 a87)), (7, (.int .i64 x88)), (8, (.int .i64 y120))]) σ' ∧ Hp S0 R S' [(i3, .cells [(.int .i64 b89.Kind), (.str b89.Attr), (.str b89.Value), v90, v91])] [] [] ∧ e' = false) ?_ ?_
   ·replace h := hy120
    rcases iteS h with ⟨hc125, h⟩ | ⟨hc125, h⟩
    ·refine WC.condT rfl hc125 ?_
     refine WC.region ?_
     refine WS rfl (nz rfl (stp_buildSlice (ys := [1, 2, 3]) (f := (eI .i64)) (parts := [(0, (.int .i64 1)), (1, (.int .i64 2)), (2, (.int .i64 3))]) rfl rfl rfl rfl rfl rfl (fc ⟨rfl, rfl⟩ (fc ⟨rfl, rfl⟩ (fc ⟨rfl, rfl⟩ (fun p hp => nomatch hp)))) rfl)) ?_
     have hv121 : IsSl (eI .i64) (some [1, 2, 3]) _ := ⟨.full, rfl⟩
     refine WS (v := (encSl (eI .u8) a86)) rfl (nz rfl rfl) ?_
     refine WS (v := .int .i64 x88) rfl (nz rfl rfl) ?_
     obtain ⟨y122, hy122, h⟩ := bindS h
     refine WS (v := (.iptr [(.int .u8 y122)] 0)) rfl (nz rfl (stp_idxAddr rfl (isSl_enc _ _) rfl rfl rfl hy122 rfl rfl)) ?_
     refine WS (v := .int .u8 y122) rfl (nz rfl rfl) ?_
     obtain ⟨z123, hz123, h⟩ := bindS h
     refine WS (v := .int .u8 z123) rfl (nz rfl (stp_rem rfl rfl hz123)) ?_
     obtain ⟨y124, hy124, h⟩ := bindS h
     refine WS (v := (.iptr [(.int .i64 y124)] 0)) rfl (nz rfl (stp_idxAddr rfl hv121 rfl rfl rfl hy124 rfl rfl)) ?_
     refine WS (v := .int .i64 y124) rfl (nz rfl rfl) ?_
     refine WS (v := .int .i64 y124) rfl (nz rfl rfl) ?_
     refine WO.nil ?_
     refine KX.seq_n ?_
     obtain rfl := Option.some.inj h
     exact ⟨(kc rfl (kc rfl (kc rfl (kc rfl (kc rfl known_nil))))), (H.sub (.cons_cons _ .slnil) .slnil .slnil), rfl⟩
    ·refine WC.condF rfl hc125 ?_
     refine WC.skip ?_
     refine KX.seq_n ?_
     obtain rfl := Option.some.inj h
     exact ⟨(kc rfl (kc rfl (kc rfl (kc rfl (kc rfl known_nil))))), (H.sub (.cons_cons _ .slnil) .slnil .slnil), rfl⟩
   ·rintro σ S e ⟨hk, H, rfl⟩
    replace h := hOy120
    refine KX.of_known hk ?_
    refine KX.seq_n ?_
    refine WC.region ?_
    refine WS (v := .int .i64 y120) rfl (nz rfl rfl) ?_
    refine WS (v := (.agg [(.int .i64 b89.Kind), (.str b89.Attr), (.str b89.Value), v90, v91])) rfl (nz rfl (stp_load rfl (H.get 0 rfl) rfl)) ?_
    refine WS rfl (nz rfl (stp_buildSlice (ys := [b89]) (f := e_Api_Filter) (parts := [(0, (.agg [(.int .i64 b89.Kind), (.str b89.Attr), (.str b89.Value), v90, v91]))]) rfl rfl rfl rfl rfl (by simp only [st_agg, List.map_cons, List.map_nil, st1_int, st1_str, hv90.strip1, hv91.strip1, e_Api_Filter_eq, tupled]) (fc ⟨rfl, rfl⟩ (fun p hp => nomatch hp)) rfl)) ?_
    have hv126 : IsSl e_Api_Filter (some [b89]) _ := ⟨.full, rfl⟩
    refine WS (v := (.agg [(.int .i64 y120), (.str []), (.str []), .nils, (.lst (List.map e_Api_Filter [b89]) .full)])) rfl (nz (fz_tmp' rfl (fz_tmp' hv126.frz rfl)) (stp_build (ti := ty25) rfl rfl rfl rfl rfl (fill_cons rfl rfl rfl rfl (Nat.le_of_ble_eq_true rfl) rfl (fill_cons rfl hv126.one.1 hv126.one.2 rfl (Nat.le_of_ble_eq_true rfl) rfl rfl)))) ?_
    refine WO.store 0 rfl rfl H rfl rfl rfl rfl rfl rfl rfl (Nat.le_of_ble_eq_true rfl) rfl (own_e hi3) ?_
    intro S H
    replace H : Hp S0 R _ [(i3, .cells [(.int .i64 y120), (.str []), (.str []), .nils, (.lst (List.map e_Api_Filter [b89]) .full)])] [] [] := H
    refine WO.nil ?_
    refine KX.block_n ?_
    refine KX.seq_n ?_
    refine WC.region ?_
    refine WS (v := .int .i64 x88) rfl (nz rfl rfl) ?_
    refine WS (v := (.int .i64 (ad .i64 x88 1))) rfl (nz rfl rfl) ?_
    refine WS (v := (.int .i64 (ad .i64 x88 1))) rfl (nz rfl rfl) ?_
    refine WO.nil ?_
    refine KX.seq_n ?_
    exact ih h .nils ((isSl_nil _)) (.lst (List.map e_Api_Filter [b89]) .full) (hv126) (kc rfl (kc rfl (kc rfl (kc rfl known_nil)))) (H.sub (.cons_cons _ .slnil) .slnil .slnil)
  ·refine WC.condF rfl hc127 ?_
   refine WC.exit ?_
   refine KX.seq_x ?_
   refine KX.seq_x ?_
   obtain rfl := Option.some.inj h
   exact hbrk v90 (hv90) v91 (hv91) (kc rfl (kc rfl known_nil)) (H.sub (.cons_cons _ .slnil) .slnil .slnil)
theorem s6 : ∀ k : Nat, ∀ {a0 : Int} {a1 : Sl Int} {r : Bool}, F6 k a0 a1 = some r → ∀ {vs : List PV}, vs.map PV.strip = [(.int .u8 a0), (encSl (eI .u8) a1)] → ∀ S : List SObj, evw env 6 vs S = some ((.bool r), S, false) := by
 intro k a0 a1 r h vs ha S
 unfold F6 at h
 refine evw_pureW (pf := fn6) rfl rfl ha (Nat.le_of_ble_eq_true rfl) (by simp [PV.clean, cleanL, clean_encSl (clean_eI .u8)]) rfl ?_
 refine WB.of (pf := fn6) rfl ?_
 have H := Hp.start []
 refine WC.seqR ?_
 refine WS (v := .bool false) rfl (nz rfl rfl) ?_
 refine WO.nil ?_
 refine WC.seq ?_
 refine WC.seqR ?_
 obtain ⟨y1, hy1, h⟩ := bindS h
 refine WS (v := .bool y1) rfl (nz rfl (stp_call (vs := []) rfl rfl (s8 _ hy1 rfl _))) ?_
 refine WS (v := (.bool (!y1))) rfl (nz rfl rfl) ?_
 refine WO.nil ?_
 rcases iteS h with ⟨hc201, h⟩ | ⟨hc201, h⟩
 ·refine WC.condT rfl hc201 ?_
  refine WC.seqR ?_
  refine WS (v := .bool false) rfl (nz rfl rfl) ?_
  refine WO.nil ?_
  refine WC.ret ?_
  refine KX.seq_r ?_
  obtain rfl := Option.some.inj h
  refine KB.ret (vs := [(.bool false)]) (res_tmp rfl res_nil) (fl_cons' rfl rfl) ?_
  exact rfl
 ·refine WC.condF rfl hc201 ?_
  refine WC.skip ?_
  refine KX.seq_n ?_
  refine WC.seqR ?_
  refine WS (v := (.agg [(.int .i64 4), (.str [99, 110]), (.str [97]), .nils, .nils])) rfl (nz rfl (stp_build (ti := ty25) rfl rfl rfl rfl rfl (fill_cons rfl rfl rfl rfl (Nat.le_of_ble_eq_true rfl) rfl (fill_cons rfl rfl rfl rfl (Nat.le_of_ble_eq_true rfl) rfl (fill_cons rfl rfl rfl rfl (Nat.le_of_ble_eq_true rfl) rfl rfl))))) ?_
  refine WO.alloc' (ti := ty25) rfl rfl rfl rfl H ?_
  intro i3 S hi3 H
  refine WO.store 0 rfl rfl H rfl rfl rfl rfl rfl rfl rfl (Nat.le_of_ble_eq_true rfl) rfl (own_e hi3) ?_
  intro S H
  replace H : Hp [] [] _ [(i3, .cells [(.int .i64 4), (.str [99, 110]), (.str [97]), .nils, .nils])] [] [] := H
  refine WO.nil ?_
  refine WC.seqR ?_
  refine WS (v := .int .u8 a0) rfl (nz rfl rfl) ?_
  obtain ⟨z4, hz4, h⟩ := bindS h
  refine WS (v := .int .u8 z4) rfl (nz rfl (stp_rem rfl rfl hz4)) ?_
  refine WS (v := (.int .i64 (cv .i64 z4))) rfl (nz rfl rfl) ?_
  refine WS (v := (.int .i64 (ad .i64 (cv .i64 z4) 20))) rfl (nz rfl rfl) ?_
  refine WS (v := (.int .i64 (sb .i64 (ad .i64 (cv .i64 z4) 20) 2))) rfl (nz rfl rfl) ?_
  refine WS (v := (.int .i64 (sb .i64 (ad .i64 (cv .i64 z4) 20) 2))) rfl (nz rfl rfl) ?_
  refine WO.nil ?_
  refine WC.seq ?_
  refine WC.seqR ?_
  refine WS (v := .int .i64 0) rfl (nz rfl rfl) ?_
  refine WO.nil ?_
  obtain ⟨y130, hy130, hOy130⟩ := bindS h
  refine WC.block ?_
  refine l6_L0 hi3 ?_ hy130 .nils ((isSl_nil _)) .nils ((isSl_nil _)) (kc rfl (kc rfl (kc rfl (kc rfl known_nil)))) (H.sub (.cons_cons _ .slnil) .slnil .slnil)
  ·intro σ S v131 hv131 v132 hv132 hk H; replace h := hOy130
   refine KX.of_known hk ?_
   refine KX.block_x ?_
   refine KX.seq_n ?_
   refine WC.seqR ?_
   refine WS (v := (.agg [(.int .i64 y130.2.Kind), (.str y130.2.Attr), (.str y130.2.Value), v131, v132])) rfl (nz rfl (stp_load rfl (H.get 0 rfl) rfl)) ?_
   obtain ⟨y133, hy133, h⟩ := bindS h
   refine WS (v := .str y133) rfl (nz rfl (stp_call (vs := [(.agg [(.int .i64 y130.2.Kind), (.str y130.2.Attr), (.str y130.2.Value), v131, v132])]) rfl rfl (s11 _ hy133 (by simp only [st_agg, List.map_cons, List.map_nil, st1_int, st1_str, hv131.strip1, hv132.strip1, e_Api_Filter_eq, tupled]) _))) ?_
   obtain ⟨y134, hy134, h⟩ := bindS h
   refine WS (v := (.tup [(.agg [(.int .i64 y134.1.Kind), (.str y134.1.Attr), (.str y134.1.Value), (encSl eS y134.1.Subs), (encSl e_Api_Filter y134.1.Kids)]), (.int .i64 y134.2)])) rfl (nz rfl (stp_call (vs := [(.str y133)]) rfl rfl (s18 _ hy134 rfl _))) ?_
   refine WS (v := (.tup [(.agg [(.int .i64 y134.1.Kind), (.str y134.1.Attr), (.str y134.1.Value), (encSl eS y134.1.Subs), (encSl e_Api_Filter y134.1.Kids)]), (.int .i64 y134.2)])) rfl (nz rfl rfl) ?_
   refine WS (v := (.agg [(.int .i64 y134.1.Kind), (.str y134.1.Attr), (.str y134.1.Value), (encSl eS y134.1.Subs), (encSl e_Api_Filter y134.1.Kids)])) rfl (nz rfl rfl) ?_
   refine WS (v := .int .i64 y134.2) rfl (nz rfl rfl) ?_
   refine WO.alloc' (ti := ty25) rfl rfl rfl rfl H ?_
   intro i135 S hi135 H
   refine WO.store 0 rfl rfl H rfl rfl rfl rfl rfl rfl rfl (Nat.le_of_ble_eq_true rfl) rfl (own_e hi135) ?_
   intro S H
   replace H : Hp [] [] _ [(i135, .cells [(.int .i64 y134.1.Kind), (.str y134.1.Attr), (.str y134.1.Value), (encSl eS y134.1.Subs), (encSl e_Api_Filter y134.1.Kids)]), (i3, .cells [(.int .i64 y130.2.Kind), (.str y130.2.Attr), (.str y130.2.Value), v131, v132])] [] [] := H
   refine WS (v := .int .i64 y134.2) rfl (nz rfl rfl) ?_
   refine WO.nil ?_
   refine WC.seq ?_
   refine WC.seqR ?_
   refine WS (v := (.int .i64 (sb .i64 (ad .i64 (cv .i64 z4) 20) 2))) rfl (nz rfl rfl) ?_
   refine WS (v := (.int .i64 (ad .i64 (sb .i64 (ad .i64 (cv .i64 z4) 20) 2) 1))) rfl (nz rfl rfl) ?_
   refine WS (v := (.bool (decide ((ad .i64 (sb .i64 (ad .i64 (cv .i64 z4) 20) 2) 1) > 20)))) rfl (nz rfl rfl) ?_
   refine WO.nil ?_
   rcases iteS h with ⟨hc200, h⟩ | ⟨hc200, h⟩
   ·refine WC.condT rfl hc200 ?_
    refine WC.seqR ?_
    refine WS (v := .int .i64 y134.2) rfl (nz rfl rfl) ?_
    refine WS (v := (.bool (y134.2 == 18))) rfl (nz rfl rfl) ?_
    refine WS (v := (.bool (y134.2 == 18))) rfl (nz rfl rfl) ?_
    obtain ⟨y162, hy162, hOy162⟩ := bindS h
    refine WO.split 4 (fun σ' S' e' => Known ([(5, (.ptr i3 0)), (55, (.bool y162))]) σ' ∧ Hp [] [] S' [(i135, .cells [(.int .i64 y134.1.Kind), (.str y134.1.Attr), (.str y134.1.Value), (encSl eS y134.1.Subs), (encSl e_Api_Filter y134.1.Kids)]), (i3, .cells [(.int .i64 y130.2.Kind), (.str y130.2.Attr), (.str y130.2.Value), v131, v132])] [] [] ∧ e' = false) ?_ ?_
    ·replace h := hy162
     revert H
     cases hc164 : (y134.2 == 18)
     ·intro H
      replace h := iteF h hc164
      refine WO.by rfl rfl rfl ?_
      refine WO.by rfl rfl rfl ?_
      refine WO.by rfl rfl rfl ?_
      refine WS (v := .bool false) rfl (nz rfl rfl) ?_
      refine WO.nil ?_
      obtain rfl := Option.some.inj h
      exact ⟨(kc rfl (kc rfl known_nil)), (H.sub (.cons_cons _ (.cons_cons _ .slnil)) .slnil .slnil), rfl⟩
     ·intro H
      replace h := iteT h hc164
      refine WO.go0 rfl rfl ?_
      refine WS (v := (.agg [(.int .i64 y130.2.Kind), (.str y130.2.Attr), (.str y130.2.Value), v131, v132])) rfl (nz rfl (stp_load rfl (H.get 1 rfl) rfl)) ?_
      refine WO.go0 rfl rfl ?_
      obtain ⟨y163, hy163, h⟩ := bindS h
      refine WS (v := .bool y163) rfl (nz rfl (stp_call (vs := [(.agg [(.int .i64 y130.2.Kind), (.str y130.2.Attr), (.str y130.2.Value), v131, v132])]) rfl rfl (s12 _ hy163 (by simp only [st_agg, List.map_cons, List.map_nil, st1_int, st1_str, hv131.strip1, hv132.strip1, e_Api_Filter_eq, tupled]) _))) ?_
      refine WO.go0 rfl rfl ?_
      refine WS (v := (.bool (!y163))) rfl (nz rfl rfl) ?_
      refine WS (v := (.bool (!y163))) rfl (nz rfl rfl) ?_
      refine WO.nil ?_
      obtain rfl := Option.some.inj h
      exact ⟨(kc rfl (kc rfl known_nil)), (H.sub (.cons_cons _ (.cons_cons _ .slnil)) .slnil .slnil), rfl⟩
    ·rintro σ S e ⟨hk, H, rfl⟩
     replace h := hOy162
     refine WO.of_known hk ?_
     refine WS (v := .bool y162) rfl (nz rfl rfl) ?_
     obtain ⟨y169, hy169, hOy169⟩ := bindS h
     refine WO.split 4 (fun σ' S' e' => Known ([(5, (.ptr i3 0)), (60, (.bool y169))]) σ' ∧ Hp [] [] S' [(i135, .cells [(.int .i64 y134.1.Kind), (.str y134.1.Attr), (.str y134.1.Value), (encSl eS y134.1.Subs), (encSl e_Api_Filter y134.1.Kids)]), (i3, .cells [(.int .i64 y130.2.Kind), (.str y130.2.Attr), (.str y130.2.Value), v131, v132])] [] [] ∧ e' = false) ?_ ?_
     ·replace h := hy169
      revert H
      cases hc171 : y162
      ·intro H
       replace h := iteF h hc171
       refine WO.by rfl rfl rfl ?_
       refine WO.by rfl rfl rfl ?_
       refine WO.by rfl rfl rfl ?_
       refine WS (v := .bool false) rfl (nz rfl rfl) ?_
       refine WO.nil ?_
       obtain rfl := Option.some.inj h
       exact ⟨(kc rfl (kc rfl known_nil)), (H.sub (.cons_cons _ (.cons_cons _ .slnil)) .slnil .slnil), rfl⟩
      ·intro H
       replace h := iteT h hc171
       refine WO.go0 rfl rfl ?_
       refine WS (v := (.agg [(.int .i64 y130.2.Kind), (.str y130.2.Attr), (.str y130.2.Value), v131, v132])) rfl (nz rfl (stp_load rfl (H.get 1 rfl) rfl)) ?_
       refine WO.go0 rfl rfl ?_
       obtain ⟨y170, hy170, h⟩ := bindS h
       refine WS (v := .str y170) rfl (nz rfl (stp_call (vs := [(.agg [(.int .i64 y130.2.Kind), (.str y130.2.Attr), (.str y130.2.Value), v131, v132])]) rfl rfl (s13 _ hy170 (by simp only [st_agg, List.map_cons, List.map_nil, st1_int, st1_str, hv131.strip1, hv132.strip1, e_Api_Filter_eq, tupled]) _))) ?_
       refine WO.go0 rfl rfl ?_
       refine WS (v := (.bool (y170 == []))) rfl (nz rfl rfl) ?_
       refine WS (v := (.bool (y170 == []))) rfl (nz rfl rfl) ?_
       refine WO.nil ?_
       obtain rfl := Option.some.inj h
       exact ⟨(kc rfl (kc rfl known_nil)), (H.sub (.cons_cons _ (.cons_cons _ .slnil)) .slnil .slnil), rfl⟩
     ·rintro σ S e ⟨hk, H, rfl⟩
      replace h := hOy169
      refine WO.of_known hk ?_
      refine WS (v := .bool y169) rfl (nz rfl rfl) ?_
      obtain ⟨y176, hy176, hOy176⟩ := bindS h
      refine WO.split 4 (fun σ' S' e' => Known ([(65, (.bool y176))]) σ' ∧ Hp [] [] S' [(i135, .cells [(.int .i64 y134.1.Kind), (.str y134.1.Attr), (.str y134.1.Value), (encSl eS y134.1.Subs), (encSl e_Api_Filter y134.1.Kids)]), (i3, .cells [(.int .i64 y130.2.Kind), (.str y130.2.Attr), (.str y130.2.Value), v131, v132])] [] [] ∧ e' = false) ?_ ?_
      ·replace h := hy176
       revert H
       cases hc178 : y169
       ·intro H
        replace h := iteF h hc178
        refine WO.by rfl rfl rfl ?_
        refine WO.by rfl rfl rfl ?_
        refine WO.by rfl rfl rfl ?_
        refine WS (v := .bool false) rfl (nz rfl rfl) ?_
        refine WO.nil ?_
        obtain rfl := Option.some.inj h
        exact ⟨(kc rfl known_nil), (H.sub (.cons_cons _ (.cons_cons _ .slnil)) .slnil .slnil), rfl⟩
       ·intro H
        replace h := iteT h hc178
        refine WO.go0 rfl rfl ?_
        refine WS (v := (.agg [(.int .i64 y130.2.Kind), (.str y130.2.Attr), (.str y130.2.Value), v131, v132])) rfl (nz rfl (stp_load rfl (H.get 1 rfl) rfl)) ?_
        refine WO.go0 rfl rfl ?_
        obtain ⟨y177, hy177, h⟩ := bindS h
        refine WS (v := .int .i64 y177) rfl (nz rfl (stp_call (vs := [(.agg [(.int .i64 y130.2.Kind), (.str y130.2.Attr), (.str y130.2.Value), v131, v132])]) rfl rfl (s14 _ hy177 (by simp only [st_agg, List.map_cons, List.map_nil, st1_int, st1_str, hv131.strip1, hv132.strip1, e_Api_Filter_eq, tupled]) _))) ?_
        refine WO.go0 rfl rfl ?_
        refine WS (v := (.bool (y177 == 21))) rfl (nz rfl rfl) ?_
        refine WS (v := (.bool (y177 == 21))) rfl (nz rfl rfl) ?_
        refine WO.nil ?_
        obtain rfl := Option.some.inj h
        exact ⟨(kc rfl known_nil), (H.sub (.cons_cons _ (.cons_cons _ .slnil)) .slnil .slnil), rfl⟩
      ·rintro σ S e ⟨hk, H, rfl⟩
       replace h := hOy176
       refine WO.of_known hk ?_
       refine WS (v := .bool y176) rfl (nz rfl rfl) ?_
       refine WO.nil ?_
       refine WC.ret ?_
       refine KX.seq_r ?_
       obtain rfl := Option.some.inj h
       refine KB.ret (vs := [(.bool y176)]) (res_tmp rfl res_nil) (fl_cons' rfl rfl) ?_
       exact rfl
   ·refine WC.condF rfl hc200 ?_
    refine WC.skip ?_
    refine KX.seq_n ?_
    refine WC.seqR ?_
    refine WS (v := .int .i64 y134.2) rfl (nz rfl rfl) ?_
    refine WS (v := (.bool (y134.2 == 0))) rfl (nz rfl rfl) ?_
    refine WS (v := (.bool (y134.2 == 0))) rfl (nz rfl rfl) ?_
    obtain ⟨y183, hy183, hOy183⟩ := bindS h
    refine WO.split 4 (fun σ' S' e' => Known ([(5, (.ptr i3 0)), (6, (.int .i64 (sb .i64 (ad .i64 (cv .i64 z4) 20) 2))), (72, (.bool y183))]) σ' ∧ Hp [] [] S' [(i135, .cells [(.int .i64 y134.1.Kind), (.str y134.1.Attr), (.str y134.1.Value), (encSl eS y134.1.Subs), (encSl e_Api_Filter y134.1.Kids)]), (i3, .cells [(.int .i64 y130.2.Kind), (.str y130.2.Attr), (.str y130.2.Value), v131, v132])] [] [] ∧ e' = false) ?_ ?_
    ·replace h := hy183
     revert H
     cases hc185 : (y134.2 == 0)
     ·intro H
      replace h := iteF h hc185
      refine WO.by rfl rfl rfl ?_
      refine WO.by rfl rfl rfl ?_
      refine WO.by rfl rfl rfl ?_
      refine WS (v := .bool false) rfl (nz rfl rfl) ?_
      refine WO.nil ?_
      obtain rfl := Option.some.inj h
      exact ⟨(kc rfl (kc rfl (kc rfl known_nil))), (H.sub (.cons_cons _ (.cons_cons _ .slnil)) .slnil .slnil), rfl⟩
     ·intro H
      replace h := iteT h hc185
      refine WO.go0 rfl rfl ?_
      refine WS (v := (.agg [(.int .i64 y130.2.Kind), (.str y130.2.Attr), (.str y130.2.Value), v131, v132])) rfl (nz rfl (stp_load rfl (H.get 1 rfl) rfl)) ?_
      refine WO.go0 rfl rfl ?_
      refine WS (v := (.agg [(.int .i64 y134.1.Kind), (.str y134.1.Attr), (.str y134.1.Value), (encSl eS y134.1.Subs), (encSl e_Api_Filter y134.1.Kids)])) rfl (nz rfl (stp_load rfl (H.get 0 rfl) rfl)) ?_
      refine WO.go0 rfl rfl ?_
      obtain ⟨y184, hy184, h⟩ := bindS h
      refine WS (v := .bool y184) rfl (nz rfl (stp_call (vs := [(.agg [(.int .i64 y130.2.Kind), (.str y130.2.Attr), (.str y130.2.Value), v131, v132]), (.agg [(.int .i64 y134.1.Kind), (.str y134.1.Attr), (.str y134.1.Value), (encSl eS y134.1.Subs), (encSl e_Api_Filter y134.1.Kids)])]) rfl rfl (s17 _ hy184 (by simp only [st_agg, List.map_cons, List.map_nil, st1_int, st1_str, hv131.strip1, hv132.strip1, e_Api_Filter_eq, strip1_enc, tupled]) _))) ?_
      refine WS (v := .bool y184) rfl (nz rfl rfl) ?_
      refine WO.nil ?_
      obtain rfl := Option.some.inj h
      exact ⟨(kc rfl (kc rfl (kc rfl known_nil))), (H.sub (.cons_cons _ (.cons_cons _ .slnil)) .slnil .slnil), rfl⟩
    ·rintro σ S e ⟨hk, H, rfl⟩
     replace h := hOy183
     refine WO.of_known hk ?_
     refine WS (v := .bool y183) rfl (nz rfl rfl) ?_
     obtain ⟨y190, hy190, hOy190⟩ := bindS h
     refine WO.split 3 (fun σ' S' e' => Known ([(5, (.ptr i3 0)), (6, (.int .i64 (sb .i64 (ad .i64 (cv .i64 z4) 20) 2))), (76, (.bool y190))]) σ' ∧ Hp [] [] S' [(i135, .cells [(.int .i64 y134.1.Kind), (.str y134.1.Attr), (.str y134.1.Value), (encSl eS y134.1.Subs), (encSl e_Api_Filter y134.1.Kids)]), (i3, .cells [(.int .i64 y130.2.Kind), (.str y130.2.Attr), (.str y130.2.Value), v131, v132])] [] [] ∧ e' = false) ?_ ?_
     ·replace h := hy190
      revert H
      cases hc192 : y183
      ·intro H
       replace h := iteF h hc192
       refine WO.by rfl rfl rfl ?_
       refine WO.by rfl rfl rfl ?_
       refine WS (v := .bool false) rfl (nz rfl rfl) ?_
       refine WO.nil ?_
       obtain rfl := Option.some.inj h
       exact ⟨(kc rfl (kc rfl (kc rfl known_nil))), (H.sub (.cons_cons _ (.cons_cons _ .slnil)) .slnil .slnil), rfl⟩
      ·intro H
       replace h := iteT h hc192
       refine WO.go0 rfl rfl ?_
       refine WS (v := (.agg [(.int .i64 y130.2.Kind), (.str y130.2.Attr), (.str y130.2.Value), v131, v132])) rfl (nz rfl (stp_load rfl (H.get 1 rfl) rfl)) ?_
       refine WO.go0 rfl rfl ?_
       obtain ⟨y191, hy191, h⟩ := bindS h
       refine WS (v := .bool y191) rfl (nz rfl (stp_call (vs := [(.agg [(.int .i64 y130.2.Kind), (.str y130.2.Attr), (.str y130.2.Value), v131, v132])]) rfl rfl (s12 _ hy191 (by simp only [st_agg, List.map_cons, List.map_nil, st1_int, st1_str, hv131.strip1, hv132.strip1, e_Api_Filter_eq, tupled]) _))) ?_
       refine WS (v := .bool y191) rfl (nz rfl rfl) ?_
       refine WO.nil ?_
       obtain rfl := Option.some.inj h
       exact ⟨(kc rfl (kc rfl (kc rfl known_nil))), (H.sub (.cons_cons _ (.cons_cons _ .slnil)) .slnil .slnil), rfl⟩
     ·rintro σ S e ⟨hk, H, rfl⟩
      replace h := hOy190
      refine WO.of_known hk ?_
      refine WS (v := .bool y190) rfl (nz rfl rfl) ?_
      obtain ⟨y197, hy197, hOy197⟩ := bindS h
      refine WO.split 6 (fun σ' S' e' => Known ([(83, (.bool y197))]) σ' ∧ Hp [] [] S' [(i135, .cells [(.int .i64 y134.1.Kind), (.str y134.1.Attr), (.str y134.1.Value), (encSl eS y134.1.Subs), (encSl e_Api_Filter y134.1.Kids)]), (i3, .cells [(.int .i64 y130.2.Kind), (.str y130.2.Attr), (.str y130.2.Value), v131, v132])] [] [] ∧ e' = false) ?_ ?_
      ·replace h := hy197
       revert H
       cases hc199 : y190
       ·intro H
        replace h := iteF h hc199
        refine WO.by rfl rfl rfl ?_
        refine WO.by rfl rfl rfl ?_
        refine WO.by rfl rfl rfl ?_
        refine WO.by rfl rfl rfl ?_
        refine WO.by rfl rfl rfl ?_
        refine WS (v := .bool false) rfl (nz rfl rfl) ?_
        refine WO.nil ?_
        obtain rfl := Option.some.inj h
        exact ⟨(kc rfl known_nil), (H.sub (.cons_cons _ (.cons_cons _ .slnil)) .slnil .slnil), rfl⟩
       ·intro H
        replace h := iteT h hc199
        refine WO.go0 rfl rfl ?_
        refine WS (v := (.agg [(.int .i64 y130.2.Kind), (.str y130.2.Attr), (.str y130.2.Value), v131, v132])) rfl (nz rfl (stp_load rfl (H.get 1 rfl) rfl)) ?_
        refine WO.go0 rfl rfl ?_
        obtain ⟨y198, hy198, h⟩ := bindS h
        refine WS (v := .int .i64 y198) rfl (nz rfl (stp_call (vs := [(.agg [(.int .i64 y130.2.Kind), (.str y130.2.Attr), (.str y130.2.Value), v131, v132])]) rfl rfl (s14 _ hy198 (by simp only [st_agg, List.map_cons, List.map_nil, st1_int, st1_str, hv131.strip1, hv132.strip1, e_Api_Filter_eq, tupled]) _))) ?_
        refine WO.go0 rfl rfl ?_
        refine WS (v := (.int .i64 (sb .i64 (ad .i64 (cv .i64 z4) 20) 2))) rfl (nz rfl rfl) ?_
        refine WO.go0 rfl rfl ?_
        refine WS (v := (.int .i64 (ad .i64 (sb .i64 (ad .i64 (cv .i64 z4) 20) 2) 1))) rfl (nz rfl rfl) ?_
        refine WO.go0 rfl rfl ?_
        refine WS (v := (.bool (y198 == (ad .i64 (sb .i64 (ad .i64 (cv .i64 z4) 20) 2) 1)))) rfl (nz rfl rfl) ?_
        refine WS (v := (.bool (y198 == (ad .i64 (sb .i64 (ad .i64 (cv .i64 z4) 20) 2) 1)))) rfl (nz rfl rfl) ?_
        refine WO.nil ?_
        obtain rfl := Option.some.inj h
        exact ⟨(kc rfl known_nil), (H.sub (.cons_cons _ (.cons_cons _ .slnil)) .slnil .slnil), rfl⟩
      ·rintro σ S e ⟨hk, H, rfl⟩
       replace h := hOy197
       refine WO.of_known hk ?_
       refine WS (v := .bool y197) rfl (nz rfl rfl) ?_
       refine WO.nil ?_
       refine WC.ret ?_
       obtain rfl := Option.some.inj h
       refine KB.ret (vs := [(.bool y197)]) (res_tmp rfl res_nil) (fl_cons' rfl rfl) ?_
       exact rfl
end Go.Proofs.Ythkjepoaddfoiaa.M
