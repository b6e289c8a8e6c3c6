/- Part of the proof: the runs of functions on the abstract machine. -/
import Derived.Test.YtfpgfgpbjadoaaaDoorPamM4
import Derived.Test.YtfpgfgpbjadoaaaDoorFns
import Derived.Test.YtfpgfgpbjadoaaaDoorWDe
import Derived.Test.YtfpgfgpbjadoaaaDoorWDc
import Derived.Test.YtfpgfgpbjadoaaaDoorWDr
import Derived.Test.YtfpgfgpbjadoaaaDoorWDs
import Derived.Test.YtfpgfgpbjadoaaaDoorWDf
import Derived.Test.YtfpgfgpbjadoaaaDoorWDk
namespace Go.Proofs.YtfpgfgpbjadoaaaDoor.M
open Go Go.Pam Go.RowKit Go.WideShapes
set_option maxRecDepth 4000
set_option linter.unusedVariables false
set_option linter.unusedSimpArgs false
-- 3 prefect/prefectlaw21.WalTells
/-- prefect/prefectlaw21.WalTells -/
def F3 (k : Nat) (a0 : Str) (a1 : Str) : Option Bool :=
  Option.bind (F7 k ) fun y1 =>
  if !y1 then
  some false
  else
  if (decide ((Str.len a0) > 2000)) || (decide ((Str.len a1) > 2000)) then
  some true
  else
  Option.bind (F8 k a0) fun y5 =>
  Option.bind (F9 k a0) fun y6 =>
  Option.bind (F10 k a1) fun y7 =>
  Option.bind (F11 k a1) fun y8 =>
  Option.bind (if y7 == y8 then
  Option.bind (F12 k a1) fun y17 =>
  Option.bind (F13 k a1) fun y18 =>
  some (y17 == y18)
  else
  some false) fun y16 =>
  Option.bind (if y16 then
  Option.bind (F14 k y5.1 y6.1) fun y25 =>
  some y25
  else
  some false) fun y24 =>
  some ((y24 && (y5.2.1 == y6.2.1)) && (y5.2.2 == y6.2.2))
theorem s3 : ∀ k : Nat, ∀ {a0 : Str} {a1 : Str} {r : Bool}, F3 k a0 a1 = some r → ∀ {vs : List PV}, vs.map PV.strip = [(.str a0), (.str a1)] → ∀ S : List SObj, evw env 3 vs S = some ((.bool r), S, false) := by
  intro k a0 a1 r h vs ha S
  unfold F3 at h
  refine evw_pureW (pf := fn3) rfl rfl ha (Nat.le_of_ble_eq_true rfl) rfl rfl ?_
  refine WB.of (pf := fn3) rfl ?_
  have H := Hp.start []
  refine WC.seqR ?_
  refine WO.step (v := (.bool false)) rfl (nz rfl rfl) ?_
  refine WO.nil ?_
  refine WC.seq ?_
  refine WC.seqR ?_
  obtain ⟨y1, hy1, h⟩ := bindS h
  refine WO.step (v := (.bool y1)) rfl (nz rfl (stp_call (vs := []) rfl rfl (s7 _ hy1 rfl _))) ?_
  refine WO.step (v := (.bool (!y1))) rfl (nz rfl rfl) ?_
  refine WO.nil ?_
  rcases iteS h with ⟨hc30, h⟩ | ⟨hc30, h⟩
  · refine WC.condT rfl hc30 ?_
    refine WC.seqR ?_
    refine WO.step (v := (.bool false)) rfl (nz rfl rfl) ?_
    refine WO.nil ?_
    refine WC.ret ?_
    refine KX.seq_r ?_
    obtain rfl := Option.some.inj h
    refine KB.ret (vs := [(.bool false)]) (res_tmp rfl res_nil) (fl_cons' rfl rfl) ?_
    exact rfl
  · refine WC.condF rfl hc30 ?_
    refine WC.skip ?_
    refine KX.seq_n ?_
    refine WC.seq ?_
    refine WC.seqR ?_
    refine WO.step (v := (.str a0)) rfl (nz rfl rfl) ?_
    refine WO.step (v := (.int .i64 (Str.len a0))) rfl (nz rfl rfl) ?_
    refine WO.step (v := (.bool (decide ((Str.len a0) > 2000)))) rfl (nz rfl rfl) ?_
    refine WO.step (v := (.bool (decide ((Str.len a0) > 2000)))) rfl (nz rfl rfl) ?_
    refine WO.split 4 (fun σ' S' e' => Known ([(0, (.str a0)), (1, (.str a1)), (20, (.bool ((decide ((Str.len a0) > 2000)) || (decide ((Str.len a1) > 2000)))))]) σ' ∧ Hp [] [] S' [] [] [] ∧ e' = false) ?_ ?_
    · revert H
      cases hc3 : (decide ((Str.len a0) > 2000))
      · intro H
        refine WO.go0 rfl rfl ?_
        refine WO.step (v := (.str a1)) rfl (nz rfl rfl) ?_
        refine WO.go0 rfl rfl ?_
        refine WO.step (v := (.int .i64 (Str.len a1))) rfl (nz rfl rfl) ?_
        refine WO.go0 rfl rfl ?_
        refine WO.step (v := (.bool (decide ((Str.len a1) > 2000)))) rfl (nz rfl rfl) ?_
        refine WO.step (v := (.bool (decide ((Str.len a1) > 2000)))) rfl (nz rfl rfl) ?_
        refine WO.nil ?_
        exact ⟨(known_cons rfl (known_cons rfl (known_cons rfl known_nil))), H, rfl⟩
      · intro H
        refine WO.by rfl rfl rfl ?_
        refine WO.by rfl rfl rfl ?_
        refine WO.by rfl rfl rfl ?_
        refine WO.step (v := (.bool true)) rfl (nz rfl rfl) ?_
        refine WO.nil ?_
        exact ⟨(known_cons rfl (known_cons rfl (known_cons rfl known_nil))), H, rfl⟩
    · rintro σ S e ⟨hk, H, rfl⟩
      refine WO.of_known hk ?_
      refine WO.nil ?_
      rcases iteS h with ⟨hc29, h⟩ | ⟨hc29, h⟩
      · refine WC.condT rfl hc29 ?_
        refine WC.seqR ?_
        refine WO.step (v := (.bool true)) rfl (nz rfl rfl) ?_
        refine WO.nil ?_
        refine WC.ret ?_
        refine KX.seq_r ?_
        obtain rfl := Option.some.inj h
        refine KB.ret (vs := [(.bool true)]) (res_tmp rfl res_nil) (fl_cons' rfl rfl) ?_
        exact rfl
      · refine WC.condF rfl hc29 ?_
        refine WC.skip ?_
        refine KX.seq_n ?_
        refine WC.seqR ?_
        refine WO.step (v := (.str a0)) rfl (nz rfl rfl) ?_
        obtain ⟨y5, hy5, h⟩ := bindS h
        refine WO.step (v := (.tup [(encSl eS y5.1), (.int .i64 y5.2.1), (.int .i64 y5.2.2)])) rfl (nz rfl (stp_call (vs := [(.str a0)]) rfl rfl (s8 _ hy5 rfl _))) ?_
        refine WO.step (v := (.tup [(encSl eS y5.1), (.int .i64 y5.2.1), (.int .i64 y5.2.2)])) rfl (nz rfl rfl) ?_
        refine WO.step (v := (encSl eS y5.1)) rfl (nz rfl rfl) ?_
        refine WO.step (v := (.int .i64 y5.2.1)) rfl (nz rfl rfl) ?_
        refine WO.step (v := (.int .i64 y5.2.2)) rfl (nz rfl rfl) ?_
        refine WO.step (v := (encSl eS y5.1)) rfl (nz rfl rfl) ?_
        refine WO.step (v := (.int .i64 y5.2.1)) rfl (nz rfl rfl) ?_
        refine WO.step (v := (.int .i64 y5.2.2)) rfl (nz rfl rfl) ?_
        refine WO.nil ?_
        refine WC.seqR ?_
        refine WO.step (v := (.str a0)) rfl (nz rfl rfl) ?_
        obtain ⟨y6, hy6, h⟩ := bindS h
        refine WO.step (v := (.tup [(encSl eS y6.1), (.int .i64 y6.2.1), (.int .i64 y6.2.2)])) rfl (nz rfl (stp_call (vs := [(.str a0)]) rfl rfl (s9 _ hy6 rfl _))) ?_
        refine WO.step (v := (.tup [(encSl eS y6.1), (.int .i64 y6.2.1), (.int .i64 y6.2.2)])) rfl (nz rfl rfl) ?_
        refine WO.step (v := (encSl eS y6.1)) rfl (nz rfl rfl) ?_
        refine WO.step (v := (.int .i64 y6.2.1)) rfl (nz rfl rfl) ?_
        refine WO.step (v := (.int .i64 y6.2.2)) rfl (nz rfl rfl) ?_
        refine WO.step (v := (encSl eS y6.1)) rfl (nz rfl rfl) ?_
        refine WO.step (v := (.int .i64 y6.2.1)) rfl (nz rfl rfl) ?_
        refine WO.step (v := (.int .i64 y6.2.2)) rfl (nz rfl rfl) ?_
        refine WO.nil ?_
        refine WC.seqR ?_
        refine WO.step (v := (.str a1)) rfl (nz rfl rfl) ?_
        obtain ⟨y7, hy7, h⟩ := bindS h
        refine WO.step (v := (.int .u32 y7)) rfl (nz rfl (stp_call (vs := [(.str a1)]) rfl rfl (s10 _ hy7 rfl _))) ?_
        refine WO.step (v := (.str a1)) rfl (nz rfl rfl) ?_
        obtain ⟨y8, hy8, h⟩ := bindS h
        refine WO.step (v := (.int .u32 y8)) rfl (nz rfl (stp_call (vs := [(.str a1)]) rfl rfl (s11 _ hy8 rfl _))) ?_
        refine WO.step (v := (.bool (y7 == y8))) rfl (nz rfl rfl) ?_
        refine WO.step (v := (.bool (y7 == y8))) rfl (nz rfl rfl) ?_
        obtain ⟨y16, hy16, hOy16⟩ := bindS h
        refine WO.split 6 (fun σ' S' e' => Known ([(5, (encSl eS y5.1)), (6, (.int .i64 y5.2.1)), (7, (.int .i64 y5.2.2)), (8, (encSl eS y6.1)), (9, (.int .i64 y6.2.1)), (10, (.int .i64 y6.2.2)), (44, (.bool y16))]) σ' ∧ Hp [] [] S' [] [] [] ∧ e' = false) ?_ ?_
        · replace h := hy16
          revert H
          cases hc19 : (y7 == y8)
          · intro H
            replace h := iteF h hc19
            refine WO.by rfl rfl rfl ?_
            refine WO.by rfl rfl rfl ?_
            refine WO.by rfl rfl rfl ?_
            refine WO.by rfl rfl rfl ?_
            refine WO.by rfl rfl rfl ?_
            refine WO.step (v := (.bool false)) rfl (nz rfl rfl) ?_
            refine WO.nil ?_
            obtain rfl := Option.some.inj h
            exact ⟨(known_cons rfl (known_cons rfl (known_cons rfl (known_cons rfl (known_cons rfl (known_cons rfl (known_cons rfl known_nil))))))), (H.sub .slnil .slnil .slnil), rfl⟩
          · intro H
            replace h := iteT h hc19
            refine WO.go0 rfl rfl ?_
            refine WO.step (v := (.str a1)) rfl (nz rfl rfl) ?_
            refine WO.go0 rfl rfl ?_
            obtain ⟨y17, hy17, h⟩ := bindS h
            refine WO.step (v := (.str y17)) rfl (nz rfl (stp_call (vs := [(.str a1)]) rfl rfl (s12 _ hy17 rfl _))) ?_
            refine WO.go0 rfl rfl ?_
            refine WO.step (v := (.str a1)) rfl (nz rfl rfl) ?_
            refine WO.go0 rfl rfl ?_
            obtain ⟨y18, hy18, h⟩ := bindS h
            refine WO.step (v := (.str y18)) rfl (nz rfl (stp_call (vs := [(.str a1)]) rfl rfl (s13 _ hy18 rfl _))) ?_
            refine WO.go0 rfl rfl ?_
            refine WO.step (v := (.bool (y17 == y18))) rfl (nz rfl rfl) ?_
            refine WO.step (v := (.bool (y17 == y18))) rfl (nz rfl rfl) ?_
            refine WO.nil ?_
            obtain rfl := Option.some.inj h
            exact ⟨(known_cons rfl (known_cons rfl (known_cons rfl (known_cons rfl (known_cons rfl (known_cons rfl (known_cons rfl known_nil))))))), (H.sub .slnil .slnil .slnil), rfl⟩
        · rintro σ S e ⟨hk, H, rfl⟩
          replace h := hOy16
          refine WO.of_known hk ?_
          refine WO.step (v := (.bool y16)) rfl (nz rfl rfl) ?_
          obtain ⟨y24, hy24, hOy24⟩ := bindS h
          refine WO.split 4 (fun σ' S' e' => Known ([(6, (.int .i64 y5.2.1)), (7, (.int .i64 y5.2.2)), (9, (.int .i64 y6.2.1)), (10, (.int .i64 y6.2.2)), (49, (.bool y24))]) σ' ∧ Hp [] [] S' [] [] [] ∧ e' = false) ?_ ?_
          · replace h := hy24
            revert H
            cases hc26 : y16
            · intro H
              replace h := iteF h hc26
              refine WO.by rfl rfl rfl ?_
              refine WO.by rfl rfl rfl ?_
              refine WO.by rfl rfl rfl ?_
              refine WO.step (v := (.bool false)) rfl (nz rfl rfl) ?_
              refine WO.nil ?_
              obtain rfl := Option.some.inj h
              exact ⟨(known_cons rfl (known_cons rfl (known_cons rfl (known_cons rfl (known_cons rfl known_nil))))), (H.sub .slnil .slnil .slnil), rfl⟩
            · intro H
              replace h := iteT h hc26
              refine WO.go0 rfl rfl ?_
              refine WO.step (v := (encSl eS y5.1)) rfl (nz rfl rfl) ?_
              refine WO.go0 rfl rfl ?_
              refine WO.step (v := (encSl eS y6.1)) rfl (nz rfl rfl) ?_
              refine WO.go0 rfl rfl ?_
              obtain ⟨y25, hy25, h⟩ := bindS h
              refine WO.step (v := (.bool y25)) rfl (nz (fz_tmp' (isSl_enc _ _).frz (fz_tmp' (isSl_enc _ _).frz rfl)) (stp_call (vs := [(encSl eS y5.1), (encSl eS y6.1)]) rfl rfl (s14 _ hy25 (by simp only [strip_enc, List.map_cons, List.map_nil, tupled]) _))) ?_
              refine WO.step (v := (.bool y25)) rfl (nz rfl rfl) ?_
              refine WO.nil ?_
              obtain rfl := Option.some.inj h
              exact ⟨(known_cons rfl (known_cons rfl (known_cons rfl (known_cons rfl (known_cons rfl known_nil))))), (H.sub .slnil .slnil .slnil), rfl⟩
          · rintro σ S e ⟨hk, H, rfl⟩
            replace h := hOy24
            refine WO.of_known hk ?_
            refine WO.step (v := (.bool y24)) rfl (nz rfl rfl) ?_
            refine WO.split 4 (fun σ' S' e' => Known ([(7, (.int .i64 y5.2.2)), (10, (.int .i64 y6.2.2)), (54, (.bool (y24 && (y5.2.1 == y6.2.1))))]) σ' ∧ Hp [] [] S' [] [] [] ∧ e' = false) ?_ ?_
            · revert H
              cases hc27 : y24
              · intro H
                refine WO.by rfl rfl rfl ?_
                refine WO.by rfl rfl rfl ?_
                refine WO.by rfl rfl rfl ?_
                refine WO.step (v := (.bool false)) rfl (nz rfl rfl) ?_
                refine WO.nil ?_
                exact ⟨(known_cons rfl (known_cons rfl (known_cons rfl known_nil))), H, rfl⟩
              · intro H
                refine WO.go0 rfl rfl ?_
                refine WO.step (v := (.int .i64 y5.2.1)) rfl (nz rfl rfl) ?_
                refine WO.go0 rfl rfl ?_
                refine WO.step (v := (.int .i64 y6.2.1)) rfl (nz rfl rfl) ?_
                refine WO.go0 rfl rfl ?_
                refine WO.step (v := (.bool (y5.2.1 == y6.2.1))) rfl (nz rfl rfl) ?_
                refine WO.step (v := (.bool (y5.2.1 == y6.2.1))) rfl (nz rfl rfl) ?_
                refine WO.nil ?_
                exact ⟨(known_cons rfl (known_cons rfl (known_cons rfl known_nil))), H, rfl⟩
            · rintro σ S e ⟨hk, H, rfl⟩
              refine WO.of_known hk ?_
              refine WO.step (v := (.bool (y24 && (y5.2.1 == y6.2.1)))) rfl (nz rfl rfl) ?_
              refine WO.split 4 (fun σ' S' e' => Known ([(59, (.bool ((y24 && (y5.2.1 == y6.2.1)) && (y5.2.2 == y6.2.2))))]) σ' ∧ Hp [] [] S' [] [] [] ∧ e' = false) ?_ ?_
              · revert H
                cases hc28 : (y24 && (y5.2.1 == y6.2.1))
                · intro H
                  refine WO.by rfl rfl rfl ?_
                  refine WO.by rfl rfl rfl ?_
                  refine WO.by rfl rfl rfl ?_
                  refine WO.step (v := (.bool false)) rfl (nz rfl rfl) ?_
                  refine WO.nil ?_
                  exact ⟨(known_cons rfl known_nil), H, rfl⟩
                · intro H
                  refine WO.go0 rfl rfl ?_
                  refine WO.step (v := (.int .i64 y5.2.2)) rfl (nz rfl rfl) ?_
                  refine WO.go0 rfl rfl ?_
                  refine WO.step (v := (.int .i64 y6.2.2)) rfl (nz rfl rfl) ?_
                  refine WO.go0 rfl rfl ?_
                  refine WO.step (v := (.bool (y5.2.2 == y6.2.2))) rfl (nz rfl rfl) ?_
                  refine WO.step (v := (.bool (y5.2.2 == y6.2.2))) rfl (nz rfl rfl) ?_
                  refine WO.nil ?_
                  exact ⟨(known_cons rfl known_nil), H, rfl⟩
              · rintro σ S e ⟨hk, H, rfl⟩
                refine WO.of_known hk ?_
                refine WO.step (v := (.bool ((y24 && (y5.2.1 == y6.2.1)) && (y5.2.2 == y6.2.2)))) rfl (nz rfl rfl) ?_
                refine WO.nil ?_
                refine WC.ret ?_
                obtain rfl := Option.some.inj h
                refine KB.ret (vs := [(.bool ((y24 && (y5.2.1 == y6.2.1)) && (y5.2.2 == y6.2.2)))]) (res_tmp rfl res_nil) (fl_cons' rfl rfl) ?_
                exact rfl
end Go.Proofs.YtfpgfgpbjadoaaaDoor.M
