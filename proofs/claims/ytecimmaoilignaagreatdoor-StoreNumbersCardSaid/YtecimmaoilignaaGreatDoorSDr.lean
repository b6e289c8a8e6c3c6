/- Part of the proof: the runs of functions on the abstract machine. -/
import Derived.Test.YtecimmaoilignaaGreatDoorPamM4
import Derived.Test.YtecimmaoilignaaGreatDoorSL
import Derived.Test.YtecimmaoilignaaGreatDoorSDe
import Derived.Test.YtecimmaoilignaaGreatDoorSDc
namespace Go.Proofs.YtecimmaoilignaaGreatDoor.M.L
open Go Go.Pam Go.RowKit Go.WideShapes
set_option maxRecDepth 4000
set_option linter.unusedVariables false
set_option linter.unusedSimpArgs false
-- 108 prefect/wal.record
/-- prefect/wal.record -/
def F108 (k : Nat) (a0 : Str) (a1 : Int) : Option (Str × Er) :=
  if decide ((Str.len a0) < 6) then
  some ([], (Er.at 29 a1))
  else
  Option.bind (Str.at? a0 0) fun c3 =>
  Option.bind (shl? .i64 (cv .i64 c3) 8) fun z4 =>
  Option.bind (Str.at? a0 1) fun c5 =>
  if decide ((Str.len a0) < (ad .i64 6 (bOr .i64 z4 (cv .i64 c5)))) then
  some ([], (Er.at 29 a1))
  else
  Option.bind (Str.sub? a0 6 (ad .i64 6 (bOr .i64 z4 (cv .i64 c5)))) fun z7 =>
  Option.bind (F95 k z7) fun y17 =>
  Option.bind (Str.sub? y17 0 6) fun z18 =>
  Option.bind (Str.sub? a0 0 6) fun z19 =>
  if z18 == z19 then
  some (z7, Er.nil)
  else
  if (Str.len a0) == (ad .i64 6 (bOr .i64 z4 (cv .i64 c5))) then
  some ([], (Er.at 29 a1))
  else
  some ([], (Er.at 24 a1))
theorem s108 : ∀ k : Nat, ∀ {a0 : Str} {a1 : Int} {r : Str × Er}, F108 k a0 a1 = some r → ∀ S : List SObj, ∃ v S', evw env 108 [(.str a0), (.int .i64 a1)] S = some (v, S', false) ∧ ErA 27 79 (fun v => .tup [(.str r.1), v]) S r.2 v S' := by
  intro k a0 a1 r h S
  unfold F108 at h
  refine evw_errW (TE := 27) (TP := 79) (mk := fun v => .tup [(.str r.1), v]) (pf := fn108) rfl rfl rfl (Nat.le_of_ble_eq_true rfl) rfl (by simp [PV.strip, PV.strip2, PV.strip1, PV.clean, cleanL]) (fun _ => by simp [PV.strip, PV.strip2, PV.strip1, PV.clean, cleanL]) (fun _ => by simp [PV.strip, PV.strip2, PV.strip1, PV.clean, cleanL]) ?_ S
  intro S0
  refine WB.of (pf := fn108) rfl ?_
  have H := Hp.start S0
  refine WC.seqR ?_
  refine WO.step (v := (.str [])) rfl (nz rfl rfl) ?_
  refine WO.step (v := .nili) rfl (nz rfl rfl) ?_
  refine WO.nil ?_
  refine WC.seqR ?_
  refine WO.step (v := (.ifc 27 (.int .i64 29))) rfl (nz rfl rfl) ?_
  refine WO.step (v := (.int .i64 a1)) rfl (nz rfl rfl) ?_
  refine WO.step (v := (.agg [(.ifc 27 (.int .i64 29)), (.int .i64 a1)])) rfl (nz rfl (stp_build (ti := ty125) rfl rfl rfl rfl rfl (fill_cons rfl rfl rfl rfl (Nat.le_of_ble_eq_true rfl) rfl (fill_cons rfl rfl rfl rfl (Nat.le_of_ble_eq_true rfl) rfl rfl)))) ?_
  refine WO.box' rfl rfl rfl rfl rfl H ?_
  intro i1 S hi1 H
  refine WO.step (v := (.ptr i1 0)) rfl (nz rfl rfl) ?_
  refine WO.nil ?_
  refine WC.seq ?_
  refine WC.seqR ?_
  refine WO.step (v := (.str a0)) rfl (nz rfl rfl) ?_
  refine WO.step (v := (.int .i64 (Str.len a0))) rfl (nz rfl rfl) ?_
  refine WO.step (v := (.bool (decide ((Str.len a0) < 6)))) rfl (nz rfl rfl) ?_
  refine WO.nil ?_
  rcases iteS h with ⟨hc28, h⟩ | ⟨hc28, h⟩
  · refine WC.condT rfl hc28 ?_
    refine WC.seqR ?_
    refine WO.step (v := (.ptr i1 0)) rfl (nz rfl rfl) ?_
    refine WO.step (v := (.ifc 79 (.ptr i1 0))) rfl (nz rfl rfl) ?_
    refine WO.step (v := (.str [])) rfl (nz rfl rfl) ?_
    refine WO.step (v := (.ifc 79 (.ptr i1 0))) rfl (nz rfl rfl) ?_
    refine WO.nil ?_
    refine WC.ret ?_
    refine KX.seq_r ?_
    obtain rfl := Option.some.inj h
    refine KB.ret (vs := [(.str []), (.ifc 79 (.ptr i1 0))]) (res_tmp rfl (res_tmp rfl res_nil)) rfl ?_
    exact ⟨rfl, _, rfl, H.sub (.cons_cons _ .slnil) .slnil .slnil⟩
  · refine WC.condF rfl hc28 ?_
    refine WC.skip ?_
    refine KX.seq_n ?_
    refine WC.seq ?_
    refine WC.draw ?_
    refine WH.step (v := (.str a0)) rfl (nz rfl rfl) rfl rfl ?_
    obtain ⟨c3, hc3, h⟩ := bindS h
    refine WH.step (v := (.int .u8 c3)) rfl (nz rfl (stp_idxStr rfl rfl rfl hc3)) rfl rfl ?_
    refine WH.step (v := (.int .i64 (cv .i64 c3))) rfl (nz rfl rfl) rfl rfl ?_
    obtain ⟨z4, hz4, h⟩ := bindS h
    refine WH.step (v := (.int .i64 z4)) rfl (nz rfl (stp_shl rfl rfl hz4)) rfl rfl ?_
    refine WH.step (v := (.str a0)) rfl (nz rfl rfl) rfl rfl ?_
    obtain ⟨c5, hc5, h⟩ := bindS h
    refine WH.step (v := (.int .u8 c5)) rfl (nz rfl (stp_idxStr rfl rfl rfl hc5)) rfl rfl ?_
    refine WH.step (v := (.int .i64 (cv .i64 c5))) rfl (nz rfl rfl) rfl rfl ?_
    refine WH.nil ?_
    refine WO.step (v := (.int .i64 (bOr .i64 z4 (cv .i64 c5)))) rfl (nz rfl rfl) ?_
    refine WO.step (v := (.int .i64 (bOr .i64 z4 (cv .i64 c5)))) rfl (nz rfl rfl) ?_
    refine WO.nil ?_
    refine KX.seq_n ?_
    refine WC.seq ?_
    refine WC.seqR ?_
    refine WO.step (v := (.str a0)) rfl (nz rfl rfl) ?_
    refine WO.step (v := (.int .i64 (Str.len a0))) rfl (nz rfl rfl) ?_
    refine WO.step (v := (.int .i64 (bOr .i64 z4 (cv .i64 c5)))) rfl (nz rfl rfl) ?_
    refine WO.step (v := (.int .i64 (ad .i64 6 (bOr .i64 z4 (cv .i64 c5))))) rfl (nz rfl rfl) ?_
    refine WO.step (v := (.bool (decide ((Str.len a0) < (ad .i64 6 (bOr .i64 z4 (cv .i64 c5))))))) rfl (nz rfl rfl) ?_
    refine WO.nil ?_
    rcases iteS h with ⟨hc27, h⟩ | ⟨hc27, h⟩
    · refine WC.condT rfl hc27 ?_
      refine WC.seqR ?_
      refine WO.step (v := (.ptr i1 0)) rfl (nz rfl rfl) ?_
      refine WO.step (v := (.ifc 79 (.ptr i1 0))) rfl (nz rfl rfl) ?_
      refine WO.step (v := (.str [])) rfl (nz rfl rfl) ?_
      refine WO.step (v := (.ifc 79 (.ptr i1 0))) rfl (nz rfl rfl) ?_
      refine WO.nil ?_
      refine WC.ret ?_
      refine KX.seq_r ?_
      obtain rfl := Option.some.inj h
      refine KB.ret (vs := [(.str []), (.ifc 79 (.ptr i1 0))]) (res_tmp rfl (res_tmp rfl res_nil)) rfl ?_
      exact ⟨rfl, _, rfl, H.sub (.cons_cons _ .slnil) .slnil .slnil⟩
    · refine WC.condF rfl hc27 ?_
      refine WC.skip ?_
      refine KX.seq_n ?_
      refine WC.seqR ?_
      refine WO.step (v := (.str a0)) rfl (nz rfl rfl) ?_
      refine WO.step (v := (.int .i64 (bOr .i64 z4 (cv .i64 c5)))) rfl (nz rfl rfl) ?_
      refine WO.step (v := (.int .i64 (ad .i64 6 (bOr .i64 z4 (cv .i64 c5))))) rfl (nz rfl rfl) ?_
      obtain ⟨z7, hz7, h⟩ := bindS h
      refine WO.step (v := (.str z7)) rfl (nz rfl (stp_subStr rfl rfl rfl rfl hz7)) ?_
      refine WO.step (v := (.str z7)) rfl (nz rfl rfl) ?_
      refine WO.nil ?_
      refine WC.seq ?_
      refine WC.block ?_
      refine WC.seq ?_
      refine WC.draw ?_
      refine WH.step (v := (.str z7)) rfl (nz rfl rfl) rfl rfl ?_
      obtain ⟨y17, hy17, h⟩ := bindS h
      refine WH.step (v := (.str y17)) rfl (nz rfl (stp_call (vs := [(.str z7)]) rfl rfl (s95 _ hy17 rfl _))) rfl rfl ?_
      obtain ⟨z18, hz18, h⟩ := bindS h
      refine WH.step (v := (.str z18)) rfl (nz rfl (stp_subStr rfl rfl rfl rfl hz18)) rfl rfl ?_
      refine WH.step (v := (.str a0)) rfl (nz rfl rfl) rfl rfl ?_
      obtain ⟨z19, hz19, h⟩ := bindS h
      refine WH.step (v := (.str z19)) rfl (nz rfl (stp_subStr rfl rfl rfl rfl hz19)) rfl rfl ?_
      refine WH.nil ?_
      refine WO.step (v := (.bool (z18 == z19))) rfl (nz rfl rfl) ?_
      refine WO.step (v := (.bool (z18 == z19))) rfl (nz rfl rfl) ?_
      refine WO.nil ?_
      refine KX.seq_n ?_
      rcases iteS h with ⟨hc26, h⟩ | ⟨hc26, h⟩
      · refine WC.condT rfl hc26 ?_
        refine WC.seqR ?_
        refine WO.step (v := (.str z7)) rfl (nz rfl rfl) ?_
        refine WO.step (v := (.str z7)) rfl (nz rfl rfl) ?_
        refine WO.step (v := .nili) rfl (nz rfl rfl) ?_
        refine WO.nil ?_
        refine WC.ret ?_
        refine KX.block_r ?_
        refine KX.seq_r ?_
        obtain rfl := Option.some.inj h
        refine KB.ret (vs := [(.str z7), .nili]) (res_tmp rfl (res_tmp rfl res_nil)) (fl_cons' rfl (fl_cons' rfl rfl)) ?_
        exact ⟨rfl, show PV.strip _ = _ from rfl⟩
      · refine WC.condF rfl hc26 ?_
        refine WC.seqR ?_
        refine WO.step (v := (.str a0)) rfl (nz rfl rfl) ?_
        refine WO.step (v := (.int .i64 (Str.len a0))) rfl (nz rfl rfl) ?_
        refine WO.step (v := (.int .i64 (bOr .i64 z4 (cv .i64 c5)))) rfl (nz rfl rfl) ?_
        refine WO.step (v := (.int .i64 (ad .i64 6 (bOr .i64 z4 (cv .i64 c5))))) rfl (nz rfl rfl) ?_
        refine WO.step (v := (.bool ((Str.len a0) == (ad .i64 6 (bOr .i64 z4 (cv .i64 c5)))))) rfl (nz rfl rfl) ?_
        refine WO.step (v := (.bool ((Str.len a0) == (ad .i64 6 (bOr .i64 z4 (cv .i64 c5)))))) rfl (nz rfl rfl) ?_
        refine WO.nil ?_
        rcases iteS h with ⟨hc25, h⟩ | ⟨hc25, h⟩
        · refine WC.condT rfl hc25 ?_
          refine WC.seqR ?_
          refine WO.step (v := (.ptr i1 0)) rfl (nz rfl rfl) ?_
          refine WO.step (v := (.ifc 79 (.ptr i1 0))) rfl (nz rfl rfl) ?_
          refine WO.step (v := (.str [])) rfl (nz rfl rfl) ?_
          refine WO.step (v := (.ifc 79 (.ptr i1 0))) rfl (nz rfl rfl) ?_
          refine WO.nil ?_
          refine WC.ret ?_
          refine KX.block_r ?_
          refine KX.seq_r ?_
          obtain rfl := Option.some.inj h
          refine KB.ret (vs := [(.str []), (.ifc 79 (.ptr i1 0))]) (res_tmp rfl (res_tmp rfl res_nil)) rfl ?_
          exact ⟨rfl, _, rfl, H.sub (.cons_cons _ .slnil) .slnil .slnil⟩
        · refine WC.condF rfl hc25 ?_
          refine WC.skip ?_
          refine KX.block_n ?_
          refine KX.seq_n ?_
          refine WC.seqR ?_
          refine WO.step (v := (.ifc 27 (.int .i64 24))) rfl (nz rfl rfl) ?_
          refine WO.step (v := (.int .i64 a1)) rfl (nz rfl rfl) ?_
          refine WO.step (v := (.agg [(.ifc 27 (.int .i64 24)), (.int .i64 a1)])) rfl (nz rfl (stp_build (ti := ty125) rfl rfl rfl rfl rfl (fill_cons rfl rfl rfl rfl (Nat.le_of_ble_eq_true rfl) rfl (fill_cons rfl rfl rfl rfl (Nat.le_of_ble_eq_true rfl) rfl rfl)))) ?_
          refine WO.box' rfl rfl rfl rfl rfl H ?_
          intro i24 S hi24 H
          refine WO.step (v := (.ifc 79 (.ptr i24 0))) rfl (nz rfl rfl) ?_
          refine WO.step (v := (.str [])) rfl (nz rfl rfl) ?_
          refine WO.step (v := (.ifc 79 (.ptr i24 0))) rfl (nz rfl rfl) ?_
          refine WO.nil ?_
          refine WC.ret ?_
          obtain rfl := Option.some.inj h
          refine KB.ret (vs := [(.str []), (.ifc 79 (.ptr i24 0))]) (res_tmp rfl (res_tmp rfl res_nil)) rfl ?_
          exact ⟨rfl, _, rfl, H.sub (.cons_cons _ (.cons _ .slnil)) .slnil .slnil⟩
end Go.Proofs.YtecimmaoilignaaGreatDoor.M.L
