/- Part of the proof: the runs of functions on the abstract machine. -/
import Derived.Test.YthkjepoaddfoiaaPamM4
import Derived.Test.YthkjepoaddfoiaaFns
import Derived.Test.YthkjepoaddfoiaaFDe
import Derived.Test.YthkjepoaddfoiaaFDc
import Derived.Test.YthkjepoaddfoiaaFDc1
import Derived.Test.YthkjepoaddfoiaaFDr
import Derived.Test.YthkjepoaddfoiaaFDq
namespace Go.Proofs.Ythkjepoaddfoiaa.M
open Go Go.Pam Go.RowKit Go.WideShapes
set_option maxRecDepth 4000
set_option linter.unusedVariables false
set_option linter.unusedSimpArgs false

-- 5 prefect/prefectlaw7.FilterReads
/-- prefect/prefectlaw7.FilterReads -/
def F5 (k : Nat) (a0 : Str) : Option Bool :=
  Option.bind (F8 k ) fun y1 =>
  if !y1 then
  some false
  else
  if decide ((Str.len a0) > 300) then
  some true
  else
  Option.bind (F19 k a0) fun y4 =>
  some y4
theorem s5 : ∀ k : Nat, ∀ {a0 : Str} {r : Bool}, F5 k a0 = some r → ∀ {vs : List PV}, vs.map PV.strip = [(.str a0)] → ∀ S : List SObj, evw env 5 vs S = some ((.bool r), S, false) := by
  intro k a0 r h vs ha S
  unfold F5 at h
  refine evw_pureW (pf := fn5) rfl rfl ha (Nat.le_of_ble_eq_true rfl) rfl rfl ?_
  refine WB.of (pf := fn5) rfl ?_
  have H := Hp.start []
  refine WC.seqR ?_
  refine WO.step (v := (.bool false)) rfl (nz rfl rfl) ?_
  refine WO.nil ?_
  refine WC.seq ?_
  refine WC.seqR ?_
  obtain ⟨y1, hy1, h⟩ := bindS h
  refine WO.step (v := (.bool y1)) rfl (nz rfl (stp_call (vs := []) rfl rfl (s8 _ hy1 rfl _))) ?_
  refine WO.step (v := (.bool (!y1))) rfl (nz rfl rfl) ?_
  refine WO.nil ?_
  rcases iteS h with ⟨hc6, h⟩ | ⟨hc6, h⟩
  · refine WC.condT rfl hc6 ?_
    refine WC.seqR ?_
    refine WO.step (v := (.bool false)) rfl (nz rfl rfl) ?_
    refine WO.nil ?_
    refine WC.ret ?_
    refine KX.seq_r ?_
    obtain rfl := Option.some.inj h
    refine KB.ret (vs := [(.bool false)]) (res_tmp rfl res_nil) (fl_cons' rfl rfl) ?_
    exact rfl
  · refine WC.condF rfl hc6 ?_
    refine WC.skip ?_
    refine KX.seq_n ?_
    refine WC.seq ?_
    refine WC.seqR ?_
    refine WO.step (v := (.str a0)) rfl (nz rfl rfl) ?_
    refine WO.step (v := (.int .i64 (Str.len a0))) rfl (nz rfl rfl) ?_
    refine WO.step (v := (.bool (decide ((Str.len a0) > 300)))) rfl (nz rfl rfl) ?_
    refine WO.nil ?_
    rcases iteS h with ⟨hc5, h⟩ | ⟨hc5, h⟩
    · refine WC.condT rfl hc5 ?_
      refine WC.seqR ?_
      refine WO.step (v := (.bool true)) rfl (nz rfl rfl) ?_
      refine WO.nil ?_
      refine WC.ret ?_
      refine KX.seq_r ?_
      obtain rfl := Option.some.inj h
      refine KB.ret (vs := [(.bool true)]) (res_tmp rfl res_nil) (fl_cons' rfl rfl) ?_
      exact rfl
    · refine WC.condF rfl hc5 ?_
      refine WC.skip ?_
      refine KX.seq_n ?_
      refine WC.seqR ?_
      refine WO.step (v := (.str a0)) rfl (nz rfl rfl) ?_
      obtain ⟨y4, hy4, h⟩ := bindS h
      refine WO.step (v := (.bool y4)) rfl (nz rfl (stp_call (vs := [(.str a0)]) rfl rfl (s19 _ hy4 rfl _))) ?_
      refine WO.step (v := (.bool y4)) rfl (nz rfl rfl) ?_
      refine WO.nil ?_
      refine WC.ret ?_
      obtain rfl := Option.some.inj h
      refine KB.ret (vs := [(.bool y4)]) (res_tmp rfl res_nil) (fl_cons' rfl rfl) ?_
      exact rfl
end Go.Proofs.Ythkjepoaddfoiaa.M
