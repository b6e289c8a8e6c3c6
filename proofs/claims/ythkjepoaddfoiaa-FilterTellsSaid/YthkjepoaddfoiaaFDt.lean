/- Part of the proof: the runs of functions on the abstract machine. -/
import Derived.Test.YthkjepoaddfoiaaPam39
import Derived.Test.YthkjepoaddfoiaaFns
import Derived.Test.YthkjepoaddfoiaaFDe
import Derived.Test.YthkjepoaddfoiaaFDc
import Derived.Test.YthkjepoaddfoiaaFDc1
import Derived.Test.YthkjepoaddfoiaaFDw
import Derived.Test.YthkjepoaddfoiaaFDr
namespace Go.Proofs.Ythkjepoaddfoiaa.M
open Go Go.Pam Go.RowKit Go.WideShapes
set_option maxRecDepth 4000
set_option linter.unusedVariables false
set_option linter.unusedSimpArgs false

-- 3 prefect/prefectlaw7.FilterTells
/-- prefect/prefectlaw7.FilterTells -/
def F3 (k : Nat) (a0 : Api_Filter) (a1 : Api_Filter) : Option Bool :=
  Option.bind (F8 k ) fun y3 =>
  if !y3 then
  some false
  else
  Option.bind (F9 k a0 0) fun y5 =>
  Option.bind (if !y5 then
  some true
  else
  Option.bind (F9 k a1 0) fun y11 =>
  some (!y11)) fun y10 =>
  if y10 then
  some true
  else
  Option.bind (F10 k a0) fun y14 =>
  Option.bind (if y14 then
  Option.bind (F11 k a0) fun y20 =>
  some y20
  else
  some []) fun y19 =>
  Option.bind (F12 k a0) fun y22 =>
  Option.bind (if y22 == y14 then
  Option.bind (F13 k a0) fun y28 =>
  some (y28 == y19)
  else
  some false) fun y27 =>
  Option.bind (if y27 then
  Option.bind (F14 k a0) fun y38 =>
  Option.bind (F15 k a0) fun y39 =>
  some (y38 == y39)
  else
  some false) fun y37 =>
  Option.bind (if y37 then
  Option.bind (F16 k a0 a1) fun y45 =>
  Option.bind (F17 k a0 a1) fun y46 =>
  some (y45 == y46)
  else
  some false) fun y44 =>
  some y44
theorem s3 : ∀ k : Nat, ∀ {a0 : Api_Filter} {a1 : Api_Filter} {r : Bool}, F3 k a0 a1 = some r → ∀ {vs : List PV}, vs.map PV.strip = [(.agg [(.int .i64 a0.Kind), (.str a0.Attr), (.str a0.Value), (encSl eS a0.Subs), (encSl e_Api_Filter a0.Kids)]), (.agg [(.int .i64 a1.Kind), (.str a1.Attr), (.str a1.Value), (encSl eS a1.Subs), (encSl e_Api_Filter a1.Kids)])] → ∀ S : List SObj, evw env 3 vs S = some ((.bool r), S, false) := by
  intro k a0 a1 r h vs ha S
  unfold F3 at h
  refine evw_pureW (pf := fn3) rfl rfl ha (Nat.le_of_ble_eq_true rfl) (by simp [PV.clean, cleanL, clean_encSl clean_Api_Filter, clean_encSl clean_eS]) rfl ?_
  refine WB.of (pf := fn3) rfl ?_
  have H := Hp.start []
  refine WC.seqR ?_
  refine WO.box' rfl rfl rfl rfl rfl H ?_
  intro i1 S hi1 H
  refine WO.box' rfl rfl rfl rfl rfl H ?_
  intro i2 S hi2 H
  refine WO.step (v := (.bool false)) rfl (nz rfl rfl) ?_
  refine WO.nil ?_
  refine WC.seq ?_
  refine WC.seqR ?_
  obtain ⟨y3, hy3, h⟩ := bindS h
  refine WO.step (v := (.bool y3)) rfl (nz rfl (stp_call (vs := []) rfl rfl (s8 _ hy3 rfl _))) ?_
  refine WO.step (v := (.bool (!y3))) rfl (nz rfl rfl) ?_
  refine WO.nil ?_
  rcases iteS h with ⟨hc49, h⟩ | ⟨hc49, h⟩
  · refine WC.condT rfl hc49 ?_
    refine WC.seqR ?_
    refine WO.step (v := (.bool false)) rfl (nz rfl rfl) ?_
    refine WO.nil ?_
    refine WC.ret ?_
    refine KX.seq_r ?_
    obtain rfl := Option.some.inj h
    refine KB.ret (vs := [(.bool false)]) (res_tmp rfl res_nil) (fl_cons' rfl rfl) ?_
    exact rfl
  · refine WC.condF rfl hc49 ?_
    refine WC.skip ?_
    refine KX.seq_n ?_
    refine WC.seq ?_
    refine WC.seqR ?_
    refine WO.step (v := (.agg [(.int .i64 a0.Kind), (.str a0.Attr), (.str a0.Value), (encSl eS a0.Subs), (encSl e_Api_Filter a0.Kids)])) rfl (nz rfl (stp_load rfl (H.get 1 rfl) rfl)) ?_
    obtain ⟨y5, hy5, h⟩ := bindS h
    refine WO.step (v := (.bool y5)) rfl (nz rfl (stp_call (vs := [(.agg [(.int .i64 a0.Kind), (.str a0.Attr), (.str a0.Value), (encSl eS a0.Subs), (encSl e_Api_Filter a0.Kids)]), (.int .i64 0)]) rfl rfl (s9 _ hy5 (by simp only [st_agg, List.map_cons, List.map_nil, st1_int, st1_str, strip1_enc, e_Api_Filter_eq, st_int, tupled]) _))) ?_
    refine WO.step (v := (.bool (!y5))) rfl (nz rfl rfl) ?_
    refine WO.step (v := (.bool (!y5))) rfl (nz rfl rfl) ?_
    obtain ⟨y10, hy10, hOy10⟩ := bindS h
    refine WO.split 4 (fun σ' S' e' => Known ([(2, (.ptr i1 0)), (3, (.ptr i2 0)), (16, (.bool y10))]) σ' ∧ Hp [] [] S' [(i2, .cells [(.int .i64 a1.Kind), (.str a1.Attr), (.str a1.Value), (encSl eS a1.Subs), (encSl e_Api_Filter a1.Kids)]), (i1, .cells [(.int .i64 a0.Kind), (.str a0.Attr), (.str a0.Value), (encSl eS a0.Subs), (encSl e_Api_Filter a0.Kids)])] [] [] ∧ e' = false) ?_ ?_
    · replace h := hy10
      revert H
      cases hc12 : (!y5)
      · intro H
        replace h := iteF h hc12
        refine WO.go0 rfl rfl ?_
        refine WO.step (v := (.agg [(.int .i64 a1.Kind), (.str a1.Attr), (.str a1.Value), (encSl eS a1.Subs), (encSl e_Api_Filter a1.Kids)])) rfl (nz rfl (stp_load rfl (H.get 0 rfl) rfl)) ?_
        refine WO.go0 rfl rfl ?_
        obtain ⟨y11, hy11, h⟩ := bindS h
        refine WO.step (v := (.bool y11)) rfl (nz rfl (stp_call (vs := [(.agg [(.int .i64 a1.Kind), (.str a1.Attr), (.str a1.Value), (encSl eS a1.Subs), (encSl e_Api_Filter a1.Kids)]), (.int .i64 0)]) rfl rfl (s9 _ hy11 (by simp only [st_agg, List.map_cons, List.map_nil, st1_int, st1_str, strip1_enc, e_Api_Filter_eq, st_int, tupled]) _))) ?_
        refine WO.go0 rfl rfl ?_
        refine WO.step (v := (.bool (!y11))) rfl (nz rfl rfl) ?_
        refine WO.step (v := (.bool (!y11))) rfl (nz rfl rfl) ?_
        refine WO.nil ?_
        obtain rfl := Option.some.inj h
        exact ⟨(known_cons rfl (known_cons rfl (known_cons rfl known_nil))), (H.sub (.cons_cons _ (.cons_cons _ .slnil)) .slnil .slnil), rfl⟩
      · intro H
        replace h := iteT h hc12
        refine WO.by rfl rfl rfl ?_
        refine WO.by rfl rfl rfl ?_
        refine WO.by rfl rfl rfl ?_
        refine WO.step (v := (.bool true)) rfl (nz rfl rfl) ?_
        refine WO.nil ?_
        obtain rfl := Option.some.inj h
        exact ⟨(known_cons rfl (known_cons rfl (known_cons rfl known_nil))), (H.sub (.cons_cons _ (.cons_cons _ .slnil)) .slnil .slnil), rfl⟩
    · rintro σ S e ⟨hk, H, rfl⟩
      replace h := hOy10
      refine WO.of_known hk ?_
      refine WO.nil ?_
      rcases iteS h with ⟨hc48, h⟩ | ⟨hc48, h⟩
      · refine WC.condT rfl hc48 ?_
        refine WC.seqR ?_
        refine WO.step (v := (.bool true)) rfl (nz rfl rfl) ?_
        refine WO.nil ?_
        refine WC.ret ?_
        refine KX.seq_r ?_
        obtain rfl := Option.some.inj h
        refine KB.ret (vs := [(.bool true)]) (res_tmp rfl res_nil) (fl_cons' rfl rfl) ?_
        exact rfl
      · refine WC.condF rfl hc48 ?_
        refine WC.skip ?_
        refine KX.seq_n ?_
        refine WC.seqR ?_
        refine WO.step (v := (.agg [(.int .i64 a0.Kind), (.str a0.Attr), (.str a0.Value), (encSl eS a0.Subs), (encSl e_Api_Filter a0.Kids)])) rfl (nz rfl (stp_load rfl (H.get 1 rfl) rfl)) ?_
        obtain ⟨y14, hy14, h⟩ := bindS h
        refine WO.step (v := (.bool y14)) rfl (nz rfl (stp_call (vs := [(.agg [(.int .i64 a0.Kind), (.str a0.Attr), (.str a0.Value), (encSl eS a0.Subs), (encSl e_Api_Filter a0.Kids)])]) rfl rfl (s10 _ hy14 (by simp only [st_agg, List.map_cons, List.map_nil, st1_int, st1_str, strip1_enc, e_Api_Filter_eq, tupled]) _))) ?_
        refine WO.step (v := (.bool y14)) rfl (nz rfl rfl) ?_
        refine WO.nil ?_
        refine WC.seqR ?_
        refine WO.step (v := (.str [])) rfl (nz rfl rfl) ?_
        refine WO.nil ?_
        refine WC.seq ?_
        refine WC.seqR ?_
        refine WO.step (v := (.bool y14)) rfl (nz rfl rfl) ?_
        refine WO.nil ?_
        obtain ⟨y19, hy19, hOy19⟩ := bindS h
        refine WC.join (fun σ' S' e' => Known ([(2, (.ptr i1 0)), (3, (.ptr i2 0)), (5, (.bool y14)), (6, (.str y19))]) σ' ∧ Hp [] [] S' [(i2, .cells [(.int .i64 a1.Kind), (.str a1.Attr), (.str a1.Value), (encSl eS a1.Subs), (encSl e_Api_Filter a1.Kids)]), (i1, .cells [(.int .i64 a0.Kind), (.str a0.Attr), (.str a0.Value), (encSl eS a0.Subs), (encSl e_Api_Filter a0.Kids)])] [] [] ∧ e' = false) ?_ ?_
        · replace h := hy19
          rcases iteS h with ⟨hc21, h⟩ | ⟨hc21, h⟩
          · refine WC.condT rfl hc21 ?_
            refine WC.region ?_
            refine WO.step (v := (.agg [(.int .i64 a0.Kind), (.str a0.Attr), (.str a0.Value), (encSl eS a0.Subs), (encSl e_Api_Filter a0.Kids)])) rfl (nz rfl (stp_load rfl (H.get 1 rfl) rfl)) ?_
            obtain ⟨y20, hy20, h⟩ := bindS h
            refine WO.step (v := (.str y20)) rfl (nz rfl (stp_call (vs := [(.agg [(.int .i64 a0.Kind), (.str a0.Attr), (.str a0.Value), (encSl eS a0.Subs), (encSl e_Api_Filter a0.Kids)])]) rfl rfl (s11 _ hy20 (by simp only [st_agg, List.map_cons, List.map_nil, st1_int, st1_str, strip1_enc, e_Api_Filter_eq, tupled]) _))) ?_
            refine WO.step (v := (.str y20)) rfl (nz rfl rfl) ?_
            refine WO.nil ?_
            refine KX.seq_n ?_
            obtain rfl := Option.some.inj h
            exact ⟨(known_cons rfl (known_cons rfl (known_cons rfl (known_cons rfl known_nil)))), (H.sub (.cons_cons _ (.cons_cons _ .slnil)) .slnil .slnil), rfl⟩
          · refine WC.condF rfl hc21 ?_
            refine WC.skip ?_
            refine KX.seq_n ?_
            obtain rfl := Option.some.inj h
            exact ⟨(known_cons rfl (known_cons rfl (known_cons rfl (known_cons rfl known_nil)))), (H.sub (.cons_cons _ (.cons_cons _ .slnil)) .slnil .slnil), rfl⟩
        · rintro σ S e ⟨hk, H, rfl⟩
          replace h := hOy19
          refine KX.of_known hk ?_
          refine KX.seq_n ?_
          refine WC.seq ?_
          refine WC.draw ?_
          refine WH.step (v := (.agg [(.int .i64 a0.Kind), (.str a0.Attr), (.str a0.Value), (encSl eS a0.Subs), (encSl e_Api_Filter a0.Kids)])) rfl (nz rfl (stp_load rfl (H.get 1 rfl) rfl)) rfl rfl ?_
          obtain ⟨y22, hy22, h⟩ := bindS h
          refine WH.step (v := (.bool y22)) rfl (nz rfl (stp_call (vs := [(.agg [(.int .i64 a0.Kind), (.str a0.Attr), (.str a0.Value), (encSl eS a0.Subs), (encSl e_Api_Filter a0.Kids)])]) rfl rfl (s12 _ hy22 (by simp only [st_agg, List.map_cons, List.map_nil, st1_int, st1_str, strip1_enc, e_Api_Filter_eq, tupled]) _))) rfl rfl ?_
          refine WH.step (v := (.bool y14)) rfl (nz rfl rfl) rfl rfl ?_
          refine WH.step (v := (.bool (y22 == y14))) rfl (nz rfl rfl) rfl rfl ?_
          refine WH.step (v := (.bool (y22 == y14))) rfl (nz rfl rfl) rfl rfl ?_
          obtain ⟨y27, hy27, hOy27⟩ := bindS h
          refine WH.split 5 (fun σ' => Known ([(2, (.ptr i1 0)), (3, (.ptr i2 0)), (31, (.bool y27))]) σ') ?_ ?_
          · replace h := hy27
            revert H
            cases hc29 : (y22 == y14)
            · intro H
              replace h := iteF h hc29
              refine WH.by rfl rfl rfl ?_
              refine WH.by rfl rfl rfl ?_
              refine WH.by rfl rfl rfl ?_
              refine WH.by rfl rfl rfl ?_
              refine WH.step (v := (.bool false)) rfl (nz rfl rfl) rfl rfl ?_
              refine WH.nil ?_
              obtain rfl := Option.some.inj h
              exact (known_cons rfl (known_cons rfl (known_cons rfl known_nil)))
            · intro H
              replace h := iteT h hc29
              refine WH.go0 rfl rfl ?_
              refine WH.step (v := (.agg [(.int .i64 a0.Kind), (.str a0.Attr), (.str a0.Value), (encSl eS a0.Subs), (encSl e_Api_Filter a0.Kids)])) rfl (nz rfl (stp_load rfl (H.get 1 rfl) rfl)) rfl rfl ?_
              refine WH.go0 rfl rfl ?_
              obtain ⟨y28, hy28, h⟩ := bindS h
              refine WH.step (v := (.str y28)) rfl (nz rfl (stp_call (vs := [(.agg [(.int .i64 a0.Kind), (.str a0.Attr), (.str a0.Value), (encSl eS a0.Subs), (encSl e_Api_Filter a0.Kids)])]) rfl rfl (s13 _ hy28 (by simp only [st_agg, List.map_cons, List.map_nil, st1_int, st1_str, strip1_enc, e_Api_Filter_eq, tupled]) _))) rfl rfl ?_
              refine WH.go0 rfl rfl ?_
              refine WH.step (v := (.str y19)) rfl (nz rfl rfl) rfl rfl ?_
              refine WH.go0 rfl rfl ?_
              refine WH.step (v := (.bool (y28 == y19))) rfl (nz rfl rfl) rfl rfl ?_
              refine WH.step (v := (.bool (y28 == y19))) rfl (nz rfl rfl) rfl rfl ?_
              refine WH.nil ?_
              obtain rfl := Option.some.inj h
              exact (known_cons rfl (known_cons rfl (known_cons rfl known_nil)))
          · rintro σ hk
            replace h := hOy27
            refine WH.of_known hk ?_
            refine WH.step (v := (.bool y27)) rfl (nz rfl rfl) rfl rfl ?_
            obtain ⟨y37, hy37, hOy37⟩ := bindS h
            refine WH.split 6 (fun σ' => Known ([(2, (.ptr i1 0)), (3, (.ptr i2 0)), (38, (.bool y37))]) σ') ?_ ?_
            · replace h := hy37
              revert H
              cases hc40 : y27
              · intro H
                replace h := iteF h hc40
                refine WH.by rfl rfl rfl ?_
                refine WH.by rfl rfl rfl ?_
                refine WH.by rfl rfl rfl ?_
                refine WH.by rfl rfl rfl ?_
                refine WH.by rfl rfl rfl ?_
                refine WH.step (v := (.bool false)) rfl (nz rfl rfl) rfl rfl ?_
                refine WH.nil ?_
                obtain rfl := Option.some.inj h
                exact (known_cons rfl (known_cons rfl (known_cons rfl known_nil)))
              · intro H
                replace h := iteT h hc40
                refine WH.go0 rfl rfl ?_
                refine WH.step (v := (.agg [(.int .i64 a0.Kind), (.str a0.Attr), (.str a0.Value), (encSl eS a0.Subs), (encSl e_Api_Filter a0.Kids)])) rfl (nz rfl (stp_load rfl (H.get 1 rfl) rfl)) rfl rfl ?_
                refine WH.go0 rfl rfl ?_
                obtain ⟨y38, hy38, h⟩ := bindS h
                refine WH.step (v := (.int .i64 y38)) rfl (nz rfl (stp_call (vs := [(.agg [(.int .i64 a0.Kind), (.str a0.Attr), (.str a0.Value), (encSl eS a0.Subs), (encSl e_Api_Filter a0.Kids)])]) rfl rfl (s14 _ hy38 (by simp only [st_agg, List.map_cons, List.map_nil, st1_int, st1_str, strip1_enc, e_Api_Filter_eq, tupled]) _))) rfl rfl ?_
                refine WH.go0 rfl rfl ?_
                refine WH.step (v := (.agg [(.int .i64 a0.Kind), (.str a0.Attr), (.str a0.Value), (encSl eS a0.Subs), (encSl e_Api_Filter a0.Kids)])) rfl (nz rfl (stp_load rfl (H.get 1 rfl) rfl)) rfl rfl ?_
                refine WH.go0 rfl rfl ?_
                obtain ⟨y39, hy39, h⟩ := bindS h
                refine WH.step (v := (.int .i64 y39)) rfl (nz rfl (stp_call (vs := [(.agg [(.int .i64 a0.Kind), (.str a0.Attr), (.str a0.Value), (encSl eS a0.Subs), (encSl e_Api_Filter a0.Kids)])]) rfl rfl (s15 _ hy39 (by simp only [st_agg, List.map_cons, List.map_nil, st1_int, st1_str, strip1_enc, e_Api_Filter_eq, tupled]) _))) rfl rfl ?_
                refine WH.go0 rfl rfl ?_
                refine WH.step (v := (.bool (y38 == y39))) rfl (nz rfl rfl) rfl rfl ?_
                refine WH.step (v := (.bool (y38 == y39))) rfl (nz rfl rfl) rfl rfl ?_
                refine WH.nil ?_
                obtain rfl := Option.some.inj h
                exact (known_cons rfl (known_cons rfl (known_cons rfl known_nil)))
            · rintro σ hk
              replace h := hOy37
              refine WH.of_known hk ?_
              refine WH.step (v := (.bool y37)) rfl (nz rfl rfl) rfl rfl ?_
              obtain ⟨y44, hy44, hOy44⟩ := bindS h
              refine WD.split 3 (fun σ' S' e' => Known ([(47, (.bool y44))]) σ' ∧ Hp [] [] S' [(i2, .cells [(.int .i64 a1.Kind), (.str a1.Attr), (.str a1.Value), (encSl eS a1.Subs), (encSl e_Api_Filter a1.Kids)]), (i1, .cells [(.int .i64 a0.Kind), (.str a0.Attr), (.str a0.Value), (encSl eS a0.Subs), (encSl e_Api_Filter a0.Kids)])] [] [] ∧ e' = false) ?_ ?_
              · replace h := hy44
                revert H
                cases hc47 : y37
                · intro H
                  replace h := iteF h hc47
                  refine WH.by rfl rfl rfl ?_
                  refine WH.by rfl rfl rfl ?_
                  refine WH.by rfl rfl rfl ?_
                  refine WH.by rfl rfl rfl ?_
                  refine WH.by rfl rfl rfl ?_
                  refine WH.nil ?_
                  refine WO.by rfl rfl rfl ?_
                  refine WO.by rfl rfl rfl ?_
                  refine WO.step (v := (.bool false)) rfl (nz rfl rfl) ?_
                  refine WO.nil ?_
                  obtain rfl := Option.some.inj h
                  exact ⟨(known_cons rfl known_nil), (H.sub (.cons_cons _ (.cons_cons _ .slnil)) .slnil .slnil), rfl⟩
                · intro H
                  replace h := iteT h hc47
                  refine WH.go0 rfl rfl ?_
                  refine WH.step (v := (.agg [(.int .i64 a0.Kind), (.str a0.Attr), (.str a0.Value), (encSl eS a0.Subs), (encSl e_Api_Filter a0.Kids)])) rfl (nz rfl (stp_load rfl (H.get 1 rfl) rfl)) rfl rfl ?_
                  refine WH.go0 rfl rfl ?_
                  refine WH.step (v := (.agg [(.int .i64 a1.Kind), (.str a1.Attr), (.str a1.Value), (encSl eS a1.Subs), (encSl e_Api_Filter a1.Kids)])) rfl (nz rfl (stp_load rfl (H.get 0 rfl) rfl)) rfl rfl ?_
                  refine WH.go0 rfl rfl ?_
                  obtain ⟨y45, hy45, h⟩ := bindS h
                  refine WH.step (v := (.bool y45)) rfl (nz rfl (stp_call (vs := [(.agg [(.int .i64 a0.Kind), (.str a0.Attr), (.str a0.Value), (encSl eS a0.Subs), (encSl e_Api_Filter a0.Kids)]), (.agg [(.int .i64 a1.Kind), (.str a1.Attr), (.str a1.Value), (encSl eS a1.Subs), (encSl e_Api_Filter a1.Kids)])]) rfl rfl (s16 _ hy45 (by simp only [st_agg, List.map_cons, List.map_nil, st1_int, st1_str, strip1_enc, e_Api_Filter_eq, tupled]) _))) rfl rfl ?_
                  refine WH.go0 rfl rfl ?_
                  refine WH.step (v := (.agg [(.int .i64 a0.Kind), (.str a0.Attr), (.str a0.Value), (encSl eS a0.Subs), (encSl e_Api_Filter a0.Kids)])) rfl (nz rfl (stp_load rfl (H.get 1 rfl) rfl)) rfl rfl ?_
                  refine WH.go0 rfl rfl ?_
                  refine WH.step (v := (.agg [(.int .i64 a1.Kind), (.str a1.Attr), (.str a1.Value), (encSl eS a1.Subs), (encSl e_Api_Filter a1.Kids)])) rfl (nz rfl (stp_load rfl (H.get 0 rfl) rfl)) rfl rfl ?_
                  refine WH.nil ?_
                  refine WO.go0 rfl rfl ?_
                  obtain ⟨y46, hy46, h⟩ := bindS h
                  refine WO.step (v := (.bool y46)) rfl (nz rfl (stp_call (vs := [(.agg [(.int .i64 a0.Kind), (.str a0.Attr), (.str a0.Value), (encSl eS a0.Subs), (encSl e_Api_Filter a0.Kids)]), (.agg [(.int .i64 a1.Kind), (.str a1.Attr), (.str a1.Value), (encSl eS a1.Subs), (encSl e_Api_Filter a1.Kids)])]) rfl rfl (s17 _ hy46 (by simp only [st_agg, List.map_cons, List.map_nil, st1_int, st1_str, strip1_enc, e_Api_Filter_eq, tupled]) _))) ?_
                  refine WO.go0 rfl rfl ?_
                  refine WO.step (v := (.bool (y45 == y46))) rfl (nz rfl rfl) ?_
                  refine WO.step (v := (.bool (y45 == y46))) rfl (nz rfl rfl) ?_
                  refine WO.nil ?_
                  obtain rfl := Option.some.inj h
                  exact ⟨(known_cons rfl known_nil), (H.sub (.cons_cons _ (.cons_cons _ .slnil)) .slnil .slnil), rfl⟩
              · rintro σ S e ⟨hk, H, rfl⟩
                replace h := hOy44
                refine WO.of_known hk ?_
                refine WO.step (v := (.bool y44)) rfl (nz rfl rfl) ?_
                refine WO.nil ?_
                refine KX.seq_n ?_
                refine WC.ret ?_
                obtain rfl := Option.some.inj h
                refine KB.ret (vs := [(.bool y44)]) (res_tmp rfl res_nil) (fl_cons' rfl rfl) ?_
                exact rfl
end Go.Proofs.Ythkjepoaddfoiaa.M
