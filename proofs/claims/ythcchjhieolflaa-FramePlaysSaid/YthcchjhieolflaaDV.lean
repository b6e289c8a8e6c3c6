/- Part of the proof: the runs of functions on the abstract machine. -/
import Derived.Test.YthcchjhieolflaaPam31
import Derived.Test.YthcchjhieolflaaFns
import Derived.Test.YthcchjhieolflaaDVa
namespace Go.Proofs.Ythcchjhieolflaa.M
open Go Go.Pam Go.RowKit Go.WideShapes
set_option maxRecDepth 4000
set_option linter.unusedVariables false
set_option linter.unusedSimpArgs false

-- 61 cmp.isNaN[int64]
/-- cmp.isNaN[int64] -/
def F61 (k : Nat) (a0 : Int) : Option Bool :=
  some (a0 != a0)
theorem s61 : ∀ k : Nat, ∀ {a0 : Int} {r : Bool}, F61 k a0 = some r → ∀ {vs : List PV}, vs.map PV.strip = [(.int .i64 a0)] → ∀ S : List SObj, evw env 61 vs S = some ((.bool r), S, false) := by
  intro k a0 r h vs ha S
  unfold F61 at h
  refine evw_pureW (pf := fn61) rfl rfl ha (Nat.le_of_ble_eq_true rfl) rfl rfl ?_
  refine WB.of (pf := fn61) rfl ?_
  have H := Hp.start []
  refine WC.seqR ?_
  refine WO.step (v := (.bool false)) rfl rfl ?_
  refine WO.nil ?_
  refine WC.seqR ?_
  refine WO.step (v := (.int .i64 a0)) rfl rfl ?_
  refine WO.step (v := (.int .i64 a0)) rfl rfl ?_
  refine WO.step (v := (.bool (a0 != a0))) rfl rfl ?_
  refine WO.step (v := (.bool (a0 != a0))) rfl rfl ?_
  refine WO.nil ?_
  refine WC.ret ?_
  obtain rfl := Option.some.inj h
  refine KB.ret (vs := [(.bool (a0 != a0))]) (res_tmp rfl res_nil) ?_
  exact rfl
-- 59 cmp.Compare[int64]
/-- cmp.Compare[int64] -/
def F59 (k : Nat) (a0 : Int) (a1 : Int) : Option Int :=
  Option.bind (F61 k a0) fun y1 =>
  Option.bind (F61 k a1) fun y2 =>
  if y1 then
  if y2 then
  some 0
  else
  some (-1)
  else
  if y2 then
  some 1
  else
  if decide (a0 < a1) then
  some (-1)
  else
  if decide (a0 > a1) then
  some 1
  else
  some 0
theorem s59 : ∀ k : Nat, ∀ {a0 : Int} {a1 : Int} {r : Int}, F59 k a0 a1 = some r → ∀ {vs : List PV}, vs.map PV.strip = [(.int .i64 a0), (.int .i64 a1)] → ∀ S : List SObj, evw env 59 vs S = some ((.int .i64 r), S, false) := by
  intro k a0 a1 r h vs ha S
  unfold F59 at h
  refine evw_pureW (pf := fn59) rfl rfl ha (Nat.le_of_ble_eq_true rfl) rfl rfl ?_
  refine WB.of (pf := fn59) rfl ?_
  have H := Hp.start []
  refine WC.seqR ?_
  refine WO.step (v := (.int .i64 0)) rfl rfl ?_
  refine WO.nil ?_
  refine WC.seqR ?_
  refine WO.step (v := (.int .i64 a0)) rfl rfl ?_
  obtain ⟨y1, hy1, h⟩ := bindS h
  refine WO.step (v := (.bool y1)) rfl (stp_call (vs := [(.int .i64 a0)]) rfl rfl (s61 _ hy1 rfl _)) ?_
  refine WO.step (v := (.bool y1)) rfl rfl ?_
  refine WO.nil ?_
  refine WC.seqR ?_
  refine WO.step (v := (.int .i64 a1)) rfl rfl ?_
  obtain ⟨y2, hy2, h⟩ := bindS h
  refine WO.step (v := (.bool y2)) rfl (stp_call (vs := [(.int .i64 a1)]) rfl rfl (s61 _ hy2 rfl _)) ?_
  refine WO.step (v := (.bool y2)) rfl rfl ?_
  refine WO.nil ?_
  refine WC.seq ?_
  refine WC.seqR ?_
  refine WO.step (v := (.bool y1)) rfl rfl ?_
  refine WO.nil ?_
  rcases iteS h with ⟨hc14, h⟩ | ⟨hc14, h⟩
  · refine WC.condT rfl hc14 ?_
    refine WC.seq ?_
    refine WC.seqR ?_
    refine WO.step (v := (.bool y2)) rfl rfl ?_
    refine WO.nil ?_
    rcases iteS h with ⟨hc7, h⟩ | ⟨hc7, h⟩
    · refine WC.condT rfl hc7 ?_
      refine WC.seqR ?_
      refine WO.step (v := (.int .i64 0)) rfl rfl ?_
      refine WO.nil ?_
      refine WC.ret ?_
      refine KX.seq_r ?_
      refine KX.seq_r ?_
      obtain rfl := Option.some.inj h
      refine KB.ret (vs := [(.int .i64 0)]) (res_tmp rfl res_nil) ?_
      exact rfl
    · refine WC.condF rfl hc7 ?_
      refine WC.skip ?_
      refine KX.seq_n ?_
      refine WC.seqR ?_
      refine WO.step (v := (.int .i64 (-1))) rfl rfl ?_
      refine WO.nil ?_
      refine WC.ret ?_
      refine KX.seq_r ?_
      obtain rfl := Option.some.inj h
      refine KB.ret (vs := [(.int .i64 (-1))]) (res_tmp rfl res_nil) ?_
      exact rfl
  · refine WC.condF rfl hc14 ?_
    refine WC.skip ?_
    refine KX.seq_n ?_
    refine WC.seq ?_
    refine WC.seqR ?_
    refine WO.step (v := (.bool y2)) rfl rfl ?_
    refine WO.nil ?_
    rcases iteS h with ⟨hc13, h⟩ | ⟨hc13, h⟩
    · refine WC.condT rfl hc13 ?_
      refine WC.seqR ?_
      refine WO.step (v := (.int .i64 1)) rfl rfl ?_
      refine WO.nil ?_
      refine WC.ret ?_
      refine KX.seq_r ?_
      obtain rfl := Option.some.inj h
      refine KB.ret (vs := [(.int .i64 1)]) (res_tmp rfl res_nil) ?_
      exact rfl
    · refine WC.condF rfl hc13 ?_
      refine WC.skip ?_
      refine KX.seq_n ?_
      refine WC.seq ?_
      refine WC.seqR ?_
      refine WO.step (v := (.int .i64 a0)) rfl rfl ?_
      refine WO.step (v := (.int .i64 a1)) rfl rfl ?_
      refine WO.step (v := (.bool (decide (a0 < a1)))) rfl rfl ?_
      refine WO.nil ?_
      rcases iteS h with ⟨hc12, h⟩ | ⟨hc12, h⟩
      · refine WC.condT rfl hc12 ?_
        refine WC.seqR ?_
        refine WO.step (v := (.int .i64 (-1))) rfl rfl ?_
        refine WO.nil ?_
        refine WC.ret ?_
        refine KX.seq_r ?_
        obtain rfl := Option.some.inj h
        refine KB.ret (vs := [(.int .i64 (-1))]) (res_tmp rfl res_nil) ?_
        exact rfl
      · refine WC.condF rfl hc12 ?_
        refine WC.skip ?_
        refine KX.seq_n ?_
        refine WC.seq ?_
        refine WC.seqR ?_
        refine WO.step (v := (.int .i64 a0)) rfl rfl ?_
        refine WO.step (v := (.int .i64 a1)) rfl rfl ?_
        refine WO.step (v := (.bool (decide (a0 > a1)))) rfl rfl ?_
        refine WO.nil ?_
        rcases iteS h with ⟨hc11, h⟩ | ⟨hc11, h⟩
        · refine WC.condT rfl hc11 ?_
          refine WC.seqR ?_
          refine WO.step (v := (.int .i64 1)) rfl rfl ?_
          refine WO.nil ?_
          refine WC.ret ?_
          refine KX.seq_r ?_
          obtain rfl := Option.some.inj h
          refine KB.ret (vs := [(.int .i64 1)]) (res_tmp rfl res_nil) ?_
          exact rfl
        · refine WC.condF rfl hc11 ?_
          refine WC.skip ?_
          refine KX.seq_n ?_
          refine WC.seqR ?_
          refine WO.step (v := (.int .i64 0)) rfl rfl ?_
          refine WO.nil ?_
          refine WC.ret ?_
          obtain rfl := Option.some.inj h
          refine KB.ret (vs := [(.int .i64 0)]) (res_tmp rfl res_nil) ?_
          exact rfl
-- 62 cmp.isNaN[int]
/-- cmp.isNaN[int] -/
def F62 (k : Nat) (a0 : Int) : Option Bool :=
  some (a0 != a0)
theorem s62 : ∀ k : Nat, ∀ {a0 : Int} {r : Bool}, F62 k a0 = some r → ∀ {vs : List PV}, vs.map PV.strip = [(.int .i64 a0)] → ∀ S : List SObj, evw env 62 vs S = some ((.bool r), S, false) := by
  intro k a0 r h vs ha S
  unfold F62 at h
  refine evw_pureW (pf := fn62) rfl rfl ha (Nat.le_of_ble_eq_true rfl) rfl rfl ?_
  refine WB.of (pf := fn62) rfl ?_
  have H := Hp.start []
  refine WC.seqR ?_
  refine WO.step (v := (.bool false)) rfl rfl ?_
  refine WO.nil ?_
  refine WC.seqR ?_
  refine WO.step (v := (.int .i64 a0)) rfl rfl ?_
  refine WO.step (v := (.int .i64 a0)) rfl rfl ?_
  refine WO.step (v := (.bool (a0 != a0))) rfl rfl ?_
  refine WO.step (v := (.bool (a0 != a0))) rfl rfl ?_
  refine WO.nil ?_
  refine WC.ret ?_
  obtain rfl := Option.some.inj h
  refine KB.ret (vs := [(.bool (a0 != a0))]) (res_tmp rfl res_nil) ?_
  exact rfl
-- 60 cmp.Compare[int]
/-- cmp.Compare[int] -/
def F60 (k : Nat) (a0 : Int) (a1 : Int) : Option Int :=
  Option.bind (F62 k a0) fun y1 =>
  Option.bind (F62 k a1) fun y2 =>
  if y1 then
  if y2 then
  some 0
  else
  some (-1)
  else
  if y2 then
  some 1
  else
  if decide (a0 < a1) then
  some (-1)
  else
  if decide (a0 > a1) then
  some 1
  else
  some 0
theorem s60 : ∀ k : Nat, ∀ {a0 : Int} {a1 : Int} {r : Int}, F60 k a0 a1 = some r → ∀ {vs : List PV}, vs.map PV.strip = [(.int .i64 a0), (.int .i64 a1)] → ∀ S : List SObj, evw env 60 vs S = some ((.int .i64 r), S, false) := by
  intro k a0 a1 r h vs ha S
  unfold F60 at h
  refine evw_pureW (pf := fn60) rfl rfl ha (Nat.le_of_ble_eq_true rfl) rfl rfl ?_
  refine WB.of (pf := fn60) rfl ?_
  have H := Hp.start []
  refine WC.seqR ?_
  refine WO.step (v := (.int .i64 0)) rfl rfl ?_
  refine WO.nil ?_
  refine WC.seqR ?_
  refine WO.step (v := (.int .i64 a0)) rfl rfl ?_
  obtain ⟨y1, hy1, h⟩ := bindS h
  refine WO.step (v := (.bool y1)) rfl (stp_call (vs := [(.int .i64 a0)]) rfl rfl (s62 _ hy1 rfl _)) ?_
  refine WO.step (v := (.bool y1)) rfl rfl ?_
  refine WO.nil ?_
  refine WC.seqR ?_
  refine WO.step (v := (.int .i64 a1)) rfl rfl ?_
  obtain ⟨y2, hy2, h⟩ := bindS h
  refine WO.step (v := (.bool y2)) rfl (stp_call (vs := [(.int .i64 a1)]) rfl rfl (s62 _ hy2 rfl _)) ?_
  refine WO.step (v := (.bool y2)) rfl rfl ?_
  refine WO.nil ?_
  refine WC.seq ?_
  refine WC.seqR ?_
  refine WO.step (v := (.bool y1)) rfl rfl ?_
  refine WO.nil ?_
  rcases iteS h with ⟨hc14, h⟩ | ⟨hc14, h⟩
  · refine WC.condT rfl hc14 ?_
    refine WC.seq ?_
    refine WC.seqR ?_
    refine WO.step (v := (.bool y2)) rfl rfl ?_
    refine WO.nil ?_
    rcases iteS h with ⟨hc7, h⟩ | ⟨hc7, h⟩
    · refine WC.condT rfl hc7 ?_
      refine WC.seqR ?_
      refine WO.step (v := (.int .i64 0)) rfl rfl ?_
      refine WO.nil ?_
      refine WC.ret ?_
      refine KX.seq_r ?_
      refine KX.seq_r ?_
      obtain rfl := Option.some.inj h
      refine KB.ret (vs := [(.int .i64 0)]) (res_tmp rfl res_nil) ?_
      exact rfl
    · refine WC.condF rfl hc7 ?_
      refine WC.skip ?_
      refine KX.seq_n ?_
      refine WC.seqR ?_
      refine WO.step (v := (.int .i64 (-1))) rfl rfl ?_
      refine WO.nil ?_
      refine WC.ret ?_
      refine KX.seq_r ?_
      obtain rfl := Option.some.inj h
      refine KB.ret (vs := [(.int .i64 (-1))]) (res_tmp rfl res_nil) ?_
      exact rfl
  · refine WC.condF rfl hc14 ?_
    refine WC.skip ?_
    refine KX.seq_n ?_
    refine WC.seq ?_
    refine WC.seqR ?_
    refine WO.step (v := (.bool y2)) rfl rfl ?_
    refine WO.nil ?_
    rcases iteS h with ⟨hc13, h⟩ | ⟨hc13, h⟩
    · refine WC.condT rfl hc13 ?_
      refine WC.seqR ?_
      refine WO.step (v := (.int .i64 1)) rfl rfl ?_
      refine WO.nil ?_
      refine WC.ret ?_
      refine KX.seq_r ?_
      obtain rfl := Option.some.inj h
      refine KB.ret (vs := [(.int .i64 1)]) (res_tmp rfl res_nil) ?_
      exact rfl
    · refine WC.condF rfl hc13 ?_
      refine WC.skip ?_
      refine KX.seq_n ?_
      refine WC.seq ?_
      refine WC.seqR ?_
      refine WO.step (v := (.int .i64 a0)) rfl rfl ?_
      refine WO.step (v := (.int .i64 a1)) rfl rfl ?_
      refine WO.step (v := (.bool (decide (a0 < a1)))) rfl rfl ?_
      refine WO.nil ?_
      rcases iteS h with ⟨hc12, h⟩ | ⟨hc12, h⟩
      · refine WC.condT rfl hc12 ?_
        refine WC.seqR ?_
        refine WO.step (v := (.int .i64 (-1))) rfl rfl ?_
        refine WO.nil ?_
        refine WC.ret ?_
        refine KX.seq_r ?_
        obtain rfl := Option.some.inj h
        refine KB.ret (vs := [(.int .i64 (-1))]) (res_tmp rfl res_nil) ?_
        exact rfl
      · refine WC.condF rfl hc12 ?_
        refine WC.skip ?_
        refine KX.seq_n ?_
        refine WC.seq ?_
        refine WC.seqR ?_
        refine WO.step (v := (.int .i64 a0)) rfl rfl ?_
        refine WO.step (v := (.int .i64 a1)) rfl rfl ?_
        refine WO.step (v := (.bool (decide (a0 > a1)))) rfl rfl ?_
        refine WO.nil ?_
        rcases iteS h with ⟨hc11, h⟩ | ⟨hc11, h⟩
        · refine WC.condT rfl hc11 ?_
          refine WC.seqR ?_
          refine WO.step (v := (.int .i64 1)) rfl rfl ?_
          refine WO.nil ?_
          refine WC.ret ?_
          refine KX.seq_r ?_
          obtain rfl := Option.some.inj h
          refine KB.ret (vs := [(.int .i64 1)]) (res_tmp rfl res_nil) ?_
          exact rfl
        · refine WC.condF rfl hc11 ?_
          refine WC.skip ?_
          refine KX.seq_n ?_
          refine WC.seqR ?_
          refine WO.step (v := (.int .i64 0)) rfl rfl ?_
          refine WO.nil ?_
          refine WC.ret ?_
          obtain rfl := Option.some.inj h
          refine KB.ret (vs := [(.int .i64 0)]) (res_tmp rfl res_nil) ?_
          exact rfl
-- 50 prefect/csn.Cmp
/-- prefect/csn.Cmp -/
def F50 (k : Nat) (a0 : Api_CSN) (a1 : Api_CSN) : Option Int :=
  Option.bind (F59 k a0.Time a1.Time) fun y3 =>
  Option.bind (F60 k a0.Seq a1.Seq) fun y4 =>
  Option.bind (F60 k a0.Rep a1.Rep) fun y5 =>
  Option.bind (F58 k (some [y3, y4, y5])) fun y7 =>
  some y7
theorem s50 : ∀ k : Nat, ∀ {a0 : Api_CSN} {a1 : Api_CSN} {r : Int}, F50 k a0 a1 = some r → ∀ {vs : List PV}, vs.map PV.strip = [(.agg [(.int .i64 a0.Time), (.int .i64 a0.Seq), (.int .i64 a0.Rep)]), (.agg [(.int .i64 a1.Time), (.int .i64 a1.Seq), (.int .i64 a1.Rep)])] → ∀ S : List SObj, evw env 50 vs S = some ((.int .i64 r), S, false) := by
  intro k a0 a1 r h vs ha S
  unfold F50 at h
  refine evw_pureW (pf := fn50) rfl rfl ha (Nat.le_of_ble_eq_true rfl) rfl rfl ?_
  refine WB.of (pf := fn50) rfl ?_
  have H := Hp.start []
  refine WC.seqR ?_
  refine WO.box' rfl rfl rfl rfl H ?_
  intro i1 S hi1 H
  refine WO.box' rfl rfl rfl rfl H ?_
  intro i2 S hi2 H
  refine WO.step (v := (.int .i64 0)) rfl rfl ?_
  refine WO.nil ?_
  refine WC.seq ?_
  refine WC.draw ?_
  refine WH.step (v := (.ptr i1 0)) rfl rfl rfl rfl ?_
  refine WH.step (v := (.int .i64 a0.Time)) rfl (stp_load rfl (H.get 1 rfl) rfl) rfl rfl ?_
  refine WH.step (v := (.ptr i2 0)) rfl rfl rfl rfl ?_
  refine WH.step (v := (.int .i64 a1.Time)) rfl (stp_load rfl (H.get 0 rfl) rfl) rfl rfl ?_
  obtain ⟨y3, hy3, h⟩ := bindS h
  refine WH.step (v := (.int .i64 y3)) rfl (stp_call (vs := [(.int .i64 a0.Time), (.int .i64 a1.Time)]) rfl rfl (s59 _ hy3 rfl _)) rfl rfl ?_
  refine WH.step (v := (.ptr i1 1)) rfl rfl rfl rfl ?_
  refine WH.step (v := (.int .i64 a0.Seq)) rfl (stp_load rfl (H.get 1 rfl) rfl) rfl rfl ?_
  refine WH.step (v := (.ptr i2 1)) rfl rfl rfl rfl ?_
  refine WH.step (v := (.int .i64 a1.Seq)) rfl (stp_load rfl (H.get 0 rfl) rfl) rfl rfl ?_
  obtain ⟨y4, hy4, h⟩ := bindS h
  refine WH.step (v := (.int .i64 y4)) rfl (stp_call (vs := [(.int .i64 a0.Seq), (.int .i64 a1.Seq)]) rfl rfl (s60 _ hy4 rfl _)) rfl rfl ?_
  refine WH.step (v := (.ptr i1 2)) rfl rfl rfl rfl ?_
  refine WH.step (v := (.int .i64 a0.Rep)) rfl (stp_load rfl (H.get 1 rfl) rfl) rfl rfl ?_
  refine WH.step (v := (.ptr i2 2)) rfl rfl rfl rfl ?_
  refine WH.step (v := (.int .i64 a1.Rep)) rfl (stp_load rfl (H.get 0 rfl) rfl) rfl rfl ?_
  refine WH.nil ?_
  obtain ⟨y5, hy5, h⟩ := bindS h
  refine WO.step (v := (.int .i64 y5)) rfl (stp_call (vs := [(.int .i64 a0.Rep), (.int .i64 a1.Rep)]) rfl rfl (s60 _ hy5 rfl _)) ?_
  refine WO.step rfl (stp_buildSlice (ys := [y3, y4, y5]) (f := (eI .i64)) (parts := [(0, (.int .i64 y3)), (1, (.int .i64 y4)), (2, (.int .i64 y5))]) rfl rfl rfl rfl rfl rfl (fc ⟨rfl, rfl⟩ (fc ⟨rfl, rfl⟩ (fc ⟨rfl, rfl⟩ (fun p hp => nomatch hp)))) rfl) ?_
  have hv6 : IsSl (eI .i64) (some [y3, y4, y5]) _ := ⟨.full, rfl⟩
  obtain ⟨y7, hy7, h⟩ := bindS h
  refine WO.step (v := (.int .i64 y7)) rfl (stp_call (vs := [(.lst (List.map (eI .i64) [y3, y4, y5]) .full)]) rfl rfl (s58 _ hy7 (by simp only [hv6.strip, st_lst, encSl_some, eI, eB, eS, List.map_cons, List.map_nil, tupled]) _)) ?_
  refine WO.step (v := (.int .i64 y7)) rfl rfl ?_
  refine WO.nil ?_
  refine KX.seq_n ?_
  refine WC.ret ?_
  obtain rfl := Option.some.inj h
  refine KB.ret (vs := [(.int .i64 y7)]) (res_tmp rfl res_nil) ?_
  exact rfl
-- 48 prefect/vector.most
/-- prefect/vector.most -/
def F48 (k : Nat) (a0 : Api_CSN) (a1 : Api_CSN) : Option Api_CSN :=
  Option.bind (F50 k a0 a1) fun y4 =>
  if decide (y4 < 0) then
  some a1
  else
  some a0
theorem s48 : ∀ k : Nat, ∀ {a0 : Api_CSN} {a1 : Api_CSN} {r : Api_CSN}, F48 k a0 a1 = some r → ∀ {vs : List PV}, vs.map PV.strip = [(.agg [(.int .i64 a0.Time), (.int .i64 a0.Seq), (.int .i64 a0.Rep)]), (.agg [(.int .i64 a1.Time), (.int .i64 a1.Seq), (.int .i64 a1.Rep)])] → ∀ S : List SObj, evw env 48 vs S = some ((.agg [(.int .i64 r.Time), (.int .i64 r.Seq), (.int .i64 r.Rep)]), S, false) := by
  intro k a0 a1 r h vs ha S
  unfold F48 at h
  refine evw_pureW (pf := fn48) rfl rfl ha (Nat.le_of_ble_eq_true rfl) rfl rfl ?_
  refine WB.of (pf := fn48) rfl ?_
  have H := Hp.start []
  refine WC.seqR ?_
  refine WO.box' rfl rfl rfl rfl H ?_
  intro i1 S hi1 H
  refine WO.box' rfl rfl rfl rfl H ?_
  intro i2 S hi2 H
  refine WO.alloc' (ti := ty50) rfl rfl rfl rfl H ?_
  intro i3 S hi3 H
  refine WO.nil ?_
  refine WC.seq ?_
  refine WC.seqR ?_
  refine WO.step (v := (.agg [(.int .i64 a0.Time), (.int .i64 a0.Seq), (.int .i64 a0.Rep)])) rfl (stp_load rfl (H.get 2 rfl) rfl) ?_
  refine WO.step (v := (.agg [(.int .i64 a1.Time), (.int .i64 a1.Seq), (.int .i64 a1.Rep)])) rfl (stp_load rfl (H.get 1 rfl) rfl) ?_
  obtain ⟨y4, hy4, h⟩ := bindS h
  refine WO.step (v := (.int .i64 y4)) rfl (stp_call (vs := [(.agg [(.int .i64 a0.Time), (.int .i64 a0.Seq), (.int .i64 a0.Rep)]), (.agg [(.int .i64 a1.Time), (.int .i64 a1.Seq), (.int .i64 a1.Rep)])]) rfl rfl (s50 _ hy4 rfl _)) ?_
  refine WO.step (v := (.bool (decide (y4 < 0)))) rfl rfl ?_
  refine WO.nil ?_
  rcases iteS h with ⟨hc6, h⟩ | ⟨hc6, h⟩
  · refine WC.condT rfl hc6 ?_
    refine WC.seqR ?_
    refine WO.step (v := (.agg [(.int .i64 a1.Time), (.int .i64 a1.Seq), (.int .i64 a1.Rep)])) rfl (stp_load rfl (H.get 1 rfl) rfl) ?_
    refine WO.store 0 rfl H rfl rfl rfl rfl rfl rfl rfl (Nat.le_of_ble_eq_true rfl) rfl (own_e hi3) ?_
    intro S H
    replace H : Hp [] [] _ [(i3, [(.int .i64 a1.Time), (.int .i64 a1.Seq), (.int .i64 a1.Rep)]), (i2, [(.int .i64 a1.Time), (.int .i64 a1.Seq), (.int .i64 a1.Rep)]), (i1, [(.int .i64 a0.Time), (.int .i64 a0.Seq), (.int .i64 a0.Rep)])] [] := H
    refine WO.nil ?_
    refine WC.ret ?_
    refine KX.seq_r ?_
    obtain rfl := Option.some.inj h
    refine KB.ret (vs := [(.agg [(.int .i64 a1.Time), (.int .i64 a1.Seq), (.int .i64 a1.Rep)])]) (res_cell rfl (H.get 0 rfl) rfl res_nil) ?_
    exact rfl
  · refine WC.condF rfl hc6 ?_
    refine WC.skip ?_
    refine KX.seq_n ?_
    refine WC.seqR ?_
    refine WO.step (v := (.agg [(.int .i64 a0.Time), (.int .i64 a0.Seq), (.int .i64 a0.Rep)])) rfl (stp_load rfl (H.get 2 rfl) rfl) ?_
    refine WO.store 0 rfl H rfl rfl rfl rfl rfl rfl rfl (Nat.le_of_ble_eq_true rfl) rfl (own_e hi3) ?_
    intro S H
    replace H : Hp [] [] _ [(i3, [(.int .i64 a0.Time), (.int .i64 a0.Seq), (.int .i64 a0.Rep)]), (i2, [(.int .i64 a1.Time), (.int .i64 a1.Seq), (.int .i64 a1.Rep)]), (i1, [(.int .i64 a0.Time), (.int .i64 a0.Seq), (.int .i64 a0.Rep)])] [] := H
    refine WO.nil ?_
    refine WC.ret ?_
    obtain rfl := Option.some.inj h
    refine KB.ret (vs := [(.agg [(.int .i64 a0.Time), (.int .i64 a0.Seq), (.int .i64 a0.Rep)])]) (res_cell rfl (H.get 0 rfl) rfl res_nil) ?_
    exact rfl
-- 28 prefect/vector.Meet
def F28_L0 (k : Nat) (a91 : Sl Api_CSN) (a92 : Sl Api_CSN) (a95 : Int) : Nat → (Sl Api_CSN) → Int → Option ((Sl Api_CSN) × Int)
  | 0, _, _ => none
  | n + 1, x93, x96 =>
    if decide (x96 < a95) then
    Option.bind (Sl.at? a91 x96) fun y112 =>
    Option.bind (Sl.at? a92 x96) fun y114 =>
    Option.bind (F50 k y114 y112) fun y115 =>
    Option.bind (if decide (y115 < 0) then
    Option.bind (Sl.at? a92 x96) fun y121 =>
    some y121
    else
    some y112) fun y120 =>
    Option.bind (Sl.app? 24 x93 (Sl.l (some [y120]))) fun z124 =>
    F28_L0 k a91 a92 a95 n z124 (ad .i64 x96 1)
    else
    some (x93, x96)
/-- prefect/vector.Meet -/
def F28 (k : Nat) (a0 : Sl Api_CSN) (a1 : Sl Api_CSN) : Option (Sl Api_CSN) :=
  Option.bind (F47 k a0) fun y1 =>
  Option.bind (F47 k a1) fun y2 =>
  Option.bind (F28_L0 k y1 y2 (imin (Sl.len y1) (Sl.len y2)) k none 0) fun y128 =>
  some y128.1
theorem l28_L0 {k : Nat} {a91 : Sl Api_CSN} {a92 : Sl Api_CSN} {a95 : Int} {S0 : List SObj} {R : List Nat} {K : KX}  {o : ((Sl Api_CSN) × Int)}
    (hbrk : ∀ {σ' : Nat → PV} {S' : List SObj}, ∀ (v127 : PV) (_ : IsSl e_Api_CSN o.1 v127), Known [(5, v127), (17, (.int .i64 o.2))] σ' → Hp S0 R S' [] [(v127, 3)] → K (.exit 0) σ' S' false) :
    ∀ {n : Nat} {x93 : Sl Api_CSN} {x96 : Int}, F28_L0 k a91 a92 a95 n x93 x96 = some o → ∀ {σ : Nat → PV} {S : List SObj}, ∀ (v94 : PV) (_ : IsSl e_Api_CSN x93 v94), Known [(0, (encSl e_Api_CSN a91)), (1, (encSl e_Api_CSN a92)), (5, v94), (16, (.int .i64 a95)), (17, (.int .i64 x96))] σ → Hp S0 R S [] [(v94, 3)] → WC env ⟨41, S0.length⟩ (.loop pc28L0) σ S false K := by
  intro n
  induction n with
  | zero => intro _ _ h; cases h
  | succ n ih =>
    intro x93 x96 h σ S v94 hv94 hk H
    rw [F28_L0] at h
    refine WC.loop ?_
    refine WC.of_known hk ?_
    refine WC.seqR ?_
    refine WO.step (v := (.bool (decide (x96 < a95)))) rfl rfl ?_
    refine WO.nil ?_
    refine WC.seq ?_
    rcases iteS h with ⟨hc126, h⟩ | ⟨hc126, h⟩
    · refine WC.condT rfl hc126 ?_
      refine WC.skip ?_
      refine KX.seq_n ?_
      refine WC.seq ?_
      refine WC.block ?_
      refine WC.seqR ?_
      refine WO.step (v := (.int .i64 x96)) rfl rfl ?_
      refine WO.step (v := (.int .i64 x96)) rfl rfl ?_
      refine WO.nil ?_
      refine WC.seqR ?_
      refine WO.step (v := (encSl e_Api_CSN a91)) rfl rfl ?_
      refine WO.step (v := (.int .i64 x96)) rfl rfl ?_
      obtain ⟨y112, hy112, h⟩ := bindS h
      refine WO.step (v := (.iptr [(.int .i64 y112.Time), (.int .i64 y112.Seq), (.int .i64 y112.Rep)] 0)) rfl (stp_idxAddr rfl (isSl_enc _ _) rfl rfl rfl hy112 (e_Api_CSN_cells _) rfl) ?_
      refine WO.step (v := (.agg [(.int .i64 y112.Time), (.int .i64 y112.Seq), (.int .i64 y112.Rep)])) rfl rfl ?_
      refine WO.alloc' (ti := ty50) rfl rfl rfl rfl H ?_
      intro i113 S hi113 H
      refine WO.store 0 rfl H rfl rfl rfl rfl rfl rfl rfl (Nat.le_of_ble_eq_true rfl) rfl (own_e hi113) ?_
      intro S H
      replace H : Hp S0 R _ [(i113, [(.int .i64 y112.Time), (.int .i64 y112.Seq), (.int .i64 y112.Rep)])] [(v94, 3)] := H
      refine WO.nil ?_
      refine WC.seq ?_
      refine WC.seq ?_
      refine WC.draw ?_
      refine WH.step (v := (encSl e_Api_CSN a92)) rfl rfl rfl rfl ?_
      refine WH.step (v := (.int .i64 x96)) rfl rfl rfl rfl ?_
      obtain ⟨y114, hy114, h⟩ := bindS h
      refine WH.step (v := (.iptr [(.int .i64 y114.Time), (.int .i64 y114.Seq), (.int .i64 y114.Rep)] 0)) rfl (stp_idxAddr rfl (isSl_enc _ _) rfl rfl rfl hy114 (e_Api_CSN_cells _) rfl) rfl rfl ?_
      refine WH.step (v := (.agg [(.int .i64 y114.Time), (.int .i64 y114.Seq), (.int .i64 y114.Rep)])) rfl rfl rfl rfl ?_
      refine WH.step (v := (.agg [(.int .i64 y112.Time), (.int .i64 y112.Seq), (.int .i64 y112.Rep)])) rfl (stp_load rfl (H.get 0 rfl) rfl) rfl rfl ?_
      refine WH.nil ?_
      obtain ⟨y115, hy115, h⟩ := bindS h
      refine WO.step (v := (.int .i64 y115)) rfl (stp_call (vs := [(.agg [(.int .i64 y114.Time), (.int .i64 y114.Seq), (.int .i64 y114.Rep)]), (.agg [(.int .i64 y112.Time), (.int .i64 y112.Seq), (.int .i64 y112.Rep)])]) rfl rfl (s50 _ hy115 rfl _)) ?_
      refine WO.step (v := (.bool (decide (y115 < 0)))) rfl rfl ?_
      refine WO.nil ?_
      refine KX.seq_n ?_
      obtain ⟨y120, hy120, hOy120⟩ := bindS h
      refine WC.join (fun σ' S' e' => Known ([(0, (encSl e_Api_CSN a91)), (1, (encSl e_Api_CSN a92)), (5, v94), (7, (.ptr i113 0)), (16, (.int .i64 a95)), (17, (.int .i64 x96))]) σ' ∧ Hp S0 R S' [(i113, [(.int .i64 y120.Time), (.int .i64 y120.Seq), (.int .i64 y120.Rep)])] [(v94, 3)] ∧ e' = false) ?_ ?_
      · replace h := hy120
        rcases iteS h with ⟨hc122, h⟩ | ⟨hc122, h⟩
        · refine WC.condT rfl hc122 ?_
          refine WC.region ?_
          refine WO.step (v := (encSl e_Api_CSN a92)) rfl rfl ?_
          refine WO.step (v := (.int .i64 x96)) rfl rfl ?_
          obtain ⟨y121, hy121, h⟩ := bindS h
          refine WO.step (v := (.iptr [(.int .i64 y121.Time), (.int .i64 y121.Seq), (.int .i64 y121.Rep)] 0)) rfl (stp_idxAddr rfl (isSl_enc _ _) rfl rfl rfl hy121 (e_Api_CSN_cells _) rfl) ?_
          refine WO.step (v := (.agg [(.int .i64 y121.Time), (.int .i64 y121.Seq), (.int .i64 y121.Rep)])) rfl rfl ?_
          refine WO.store 0 rfl H rfl rfl rfl rfl rfl rfl rfl (Nat.le_of_ble_eq_true rfl) rfl (own_e hi113) ?_
          intro S H
          replace H : Hp S0 R _ [(i113, [(.int .i64 y121.Time), (.int .i64 y121.Seq), (.int .i64 y121.Rep)])] [(v94, 3)] := H
          refine WO.nil ?_
          refine KX.seq_n ?_
          obtain rfl := Option.some.inj h
          exact ⟨(known_cons rfl (known_cons rfl (known_cons rfl (known_cons rfl (known_cons rfl (known_cons rfl known_nil)))))), (H.sub (.cons_cons _ .slnil) (.cons_cons _ .slnil)), rfl⟩
        · refine WC.condF rfl hc122 ?_
          refine WC.skip ?_
          refine KX.seq_n ?_
          obtain rfl := Option.some.inj h
          exact ⟨(known_cons rfl (known_cons rfl (known_cons rfl (known_cons rfl (known_cons rfl (known_cons rfl known_nil)))))), (H.sub (.cons_cons _ .slnil) (.cons_cons _ .slnil)), rfl⟩
      · rintro σ S e ⟨hk, H, rfl⟩
        replace h := hOy120
        refine KX.of_known hk ?_
        refine KX.seq_n ?_
        refine WC.region ?_
        refine WO.step (v := v94) rfl rfl ?_
        refine WO.step (v := (.agg [(.int .i64 y120.Time), (.int .i64 y120.Seq), (.int .i64 y120.Rep)])) rfl (stp_load rfl (H.get 0 rfl) rfl) ?_
        refine WO.step rfl (stp_buildSlice (ys := [y120]) (f := e_Api_CSN) (parts := [(0, (.agg [(.int .i64 y120.Time), (.int .i64 y120.Seq), (.int .i64 y120.Rep)]))]) rfl rfl rfl rfl rfl rfl (fc ⟨rfl, rfl⟩ (fun p hp => nomatch hp)) rfl) ?_
        have hv123 : IsSl e_Api_CSN (some [y120]) _ := ⟨.full, rfl⟩
        obtain ⟨z124, hz124, h⟩ := bindS h
        refine WO.ex rfl (stp_app (f := e_Api_CSN) (ei := ty50) H 0 rfl rfl hv94 rfl hv123 rfl rfl rfl rfl (fun a => (e_Api_CSN_one a).2.1) hz124) ?_
        rintro v125 S ⟨hv125, H⟩
        replace H : Hp S0 R _ [(i113, [(.int .i64 y120.Time), (.int .i64 y120.Seq), (.int .i64 y120.Rep)])] [(v125, 3)] := H
        refine WO.step (v := v125) rfl rfl ?_
        refine WO.nil ?_
        refine KX.block_n ?_
        refine KX.seq_n ?_
        refine WC.region ?_
        refine WO.step (v := (.int .i64 (ad .i64 x96 1))) rfl rfl ?_
        refine WO.step (v := (.int .i64 (ad .i64 x96 1))) rfl rfl ?_
        refine WO.nil ?_
        refine KX.seq_n ?_
        exact ih h v125 (hv125) (known_cons rfl (known_cons rfl (known_cons rfl (known_cons rfl (known_cons rfl known_nil))))) (H.sub (.cons _ .slnil) (.cons_cons _ .slnil))
    · refine WC.condF rfl hc126 ?_
      refine WC.exit ?_
      refine KX.seq_x ?_
      refine KX.seq_x ?_
      obtain rfl := Option.some.inj h
      exact hbrk v94 (hv94) (known_cons rfl (known_cons rfl known_nil)) (H.sub .slnil (.cons_cons _ .slnil))
theorem s28 : ∀ k : Nat, ∀ {a0 : Sl Api_CSN} {a1 : Sl Api_CSN} {r : (Sl Api_CSN)}, F28 k a0 a1 = some r → ∀ {vs : List PV}, vs.map PV.strip = [(encSl e_Api_CSN a0), (encSl e_Api_CSN a1)] → ∀ S : List SObj, evw env 28 vs S = some ((encSl e_Api_CSN r), S, false) := by
  intro k a0 a1 r h vs ha S
  unfold F28 at h
  refine evw_pureW (pf := fn28) rfl rfl ha (Nat.le_of_ble_eq_true rfl) (by simp [PV.clean, cleanL, clean_encSl clean_Api_CSN]) (by simp [PV.clean, cleanL, clean_encSl clean_Api_CSN]) ?_
  refine WB.of (pf := fn28) rfl ?_
  have H := Hp.start []
  refine WC.seqR ?_
  refine WO.step (v := .nils) rfl rfl ?_
  refine WO.nil ?_
  refine WC.seqR ?_
  refine WO.step (v := (encSl e_Api_CSN a0)) rfl rfl ?_
  obtain ⟨y1, hy1, h⟩ := bindS h
  refine WO.step (v := (encSl e_Api_CSN y1)) rfl (stp_call (vs := [(encSl e_Api_CSN a0)]) rfl rfl (s47 _ hy1 (by simp only [strip_enc, List.map_cons, List.map_nil, tupled]) _)) ?_
  refine WO.step (v := (encSl e_Api_CSN a1)) rfl rfl ?_
  obtain ⟨y2, hy2, h⟩ := bindS h
  refine WO.step (v := (encSl e_Api_CSN y2)) rfl (stp_call (vs := [(encSl e_Api_CSN a1)]) rfl rfl (s47 _ hy2 (by simp only [strip_enc, List.map_cons, List.map_nil, tupled]) _)) ?_
  refine WO.step (v := (encSl e_Api_CSN y1)) rfl rfl ?_
  refine WO.step (v := (encSl e_Api_CSN y2)) rfl rfl ?_
  refine WO.nil ?_
  refine WC.seqR ?_
  refine WO.step (v := .nils) rfl rfl ?_
  refine WO.nil ?_
  refine WC.seq ?_
  refine WC.seqR ?_
  refine WO.step (v := (encSl e_Api_CSN y1)) rfl rfl ?_
  refine WO.step (v := (.int .i64 (Sl.len y1))) rfl (stp_len rfl (isSl_enc _ _) rfl) ?_
  refine WO.step (v := (encSl e_Api_CSN y2)) rfl rfl ?_
  refine WO.step (v := (.int .i64 (Sl.len y2))) rfl (stp_len rfl (isSl_enc _ _) rfl) ?_
  refine WO.step (v := (.int .i64 (imin (Sl.len y1) (Sl.len y2)))) rfl rfl ?_
  refine WO.step (v := (.int .i64 0)) rfl rfl ?_
  refine WO.nil ?_
  obtain ⟨y128, hy128, hOy128⟩ := bindS h
  refine WC.block ?_
  have H := H.addNil 3
  refine l28_L0 ?_ hy128 .nils ((isSl_nil _)) (known_cons rfl (known_cons rfl (known_cons rfl (known_cons rfl (known_cons rfl known_nil))))) (H.sub .slnil (.cons_cons _ .slnil))
  · intro σ S v129 hv129 hk H; replace h := hOy128
    refine KX.of_known hk ?_
    refine KX.block_x ?_
    refine KX.seq_n ?_
    refine WC.seqR ?_
    refine WO.step (v := v129) rfl rfl ?_
    refine WO.step (v := v129) rfl rfl ?_
    refine WO.nil ?_
    refine WC.ret ?_
    obtain rfl := Option.some.inj h
    refine KB.ret (vs := [v129]) (res_tmp rfl res_nil) ?_
    exact (by simp only [st_tup, List.map_cons, List.map_nil, tupled, hv129.strip])
-- 30 prefect/vector.Leq
def F30_L0 (k : Nat) (a58 : Sl Api_CSN) (a59 : Sl Api_CSN) (a60 : Int) : Nat → Int → Option (Out Bool Int)
  | 0, _ => none
  | n + 1, x61 =>
    if decide (x61 < a60) then
    Option.bind (Sl.at? a59 x61) fun y74 =>
    Option.bind (if decide (x61 ≥ (Sl.len a58)) then
    some true
    else
    Option.bind (Sl.at? a58 x61) fun y80 =>
    Option.bind (F50 k y74 y80) fun y81 =>
    some (decide (y81 > 0))) fun y79 =>
    if y79 then
    some (Out.ret false)
    else
    F30_L0 k a58 a59 a60 n (ad .i64 x61 1)
    else
    some (Out.brk x61)
/-- prefect/vector.Leq -/
def F30 (k : Nat) (a0 : Sl Api_CSN) (a1 : Sl Api_CSN) : Option Bool :=
  Option.bind (F47 k a0) fun y1 =>
  Option.bind (F47 k a1) fun y2 =>
  Option.bind (F30_L0 k y2 y1 (Sl.len y1) k 0) fun y86 =>
  match y86 with
  | .ret y86r => some y86r
  | .brk y86b =>
  some true
theorem l30_L0 {k : Nat} {a58 : Sl Api_CSN} {a59 : Sl Api_CSN} {a60 : Int} {S0 : List SObj} {R : List Nat} {K : KX}  {o : Out Bool Int}
    (hret : ∀ r : Bool, o = .ret r → ∀ {σ' : Nat → PV} {S' : List SObj}, Known [(4, (.bool r))] σ' → Hp S0 R S' [] [] → K .ret σ' S' false)
    (hbrk : ∀ y : Int, o = .brk y → ∀ {σ' : Nat → PV} {S' : List SObj}, Known [(13, (.int .i64 y))] σ' → Hp S0 R S' [] [] → K (.exit 0) σ' S' false) :
    ∀ {n : Nat} {x61 : Int}, F30_L0 k a58 a59 a60 n x61 = some o → ∀ {σ : Nat → PV} {S : List SObj}, Known [(1, (encSl e_Api_CSN a58)), (11, (encSl e_Api_CSN a59)), (12, (.int .i64 a60)), (13, (.int .i64 x61))] σ → Hp S0 R S [] [] → WC env ⟨32, S0.length⟩ (.loop pc30L0) σ S false K := by
  intro n
  induction n with
  | zero => intro _ h; cases h
  | succ n ih =>
    intro x61 h σ S  hk H
    rw [F30_L0] at h
    refine WC.loop ?_
    refine WC.of_known hk ?_
    refine WC.seqR ?_
    refine WO.step (v := (.bool (decide (x61 < a60)))) rfl rfl ?_
    refine WO.nil ?_
    refine WC.seq ?_
    rcases iteS h with ⟨hc85, h⟩ | ⟨hc85, h⟩
    · refine WC.condT rfl hc85 ?_
      refine WC.skip ?_
      refine KX.seq_n ?_
      refine WC.seq ?_
      refine WC.block ?_
      refine WC.seqR ?_
      refine WO.step (v := (.int .i64 x61)) rfl rfl ?_
      obtain ⟨y74, hy74, h⟩ := bindS h
      refine WO.step (v := (.iptr [(.int .i64 y74.Time), (.int .i64 y74.Seq), (.int .i64 y74.Rep)] 0)) rfl (stp_idxAddr rfl (isSl_enc _ _) rfl rfl rfl hy74 (e_Api_CSN_cells _) rfl) ?_
      refine WO.step (v := (.agg [(.int .i64 y74.Time), (.int .i64 y74.Seq), (.int .i64 y74.Rep)])) rfl rfl ?_
      refine WO.alloc' (ti := ty50) rfl rfl rfl rfl H ?_
      intro i75 S hi75 H
      refine WO.step (v := (.int .i64 x61)) rfl rfl ?_
      refine WO.store 0 rfl H rfl rfl rfl rfl rfl rfl rfl (Nat.le_of_ble_eq_true rfl) rfl (own_e hi75) ?_
      intro S H
      replace H : Hp S0 R _ [(i75, [(.int .i64 y74.Time), (.int .i64 y74.Seq), (.int .i64 y74.Rep)])] [] := H
      refine WO.nil ?_
      refine WC.seq ?_
      refine WC.draw ?_
      refine WH.step (v := (.int .i64 x61)) rfl rfl rfl rfl ?_
      refine WH.step (v := (encSl e_Api_CSN a58)) rfl rfl rfl rfl ?_
      refine WH.step (v := (.int .i64 (Sl.len a58))) rfl (stp_len rfl (isSl_enc _ _) rfl) rfl rfl ?_
      refine WH.step (v := (.bool (decide (x61 ≥ (Sl.len a58))))) rfl rfl rfl rfl ?_
      refine WH.step (v := (.bool (decide (x61 ≥ (Sl.len a58))))) rfl rfl rfl rfl ?_
      obtain ⟨y79, hy79, hOy79⟩ := bindS h
      refine WD.split 3 (fun σ' S' e' => Known ([(1, (encSl e_Api_CSN a58)), (11, (encSl e_Api_CSN a59)), (12, (.int .i64 a60)), (13, (.int .i64 x61)), (30, (.bool y79))]) σ' ∧ Hp S0 R S' [(i75, [(.int .i64 y74.Time), (.int .i64 y74.Seq), (.int .i64 y74.Rep)])] [] ∧ e' = false) ?_ ?_
      · replace h := hy79
        cases hc82 : (decide (x61 ≥ (Sl.len a58)))
        · replace h := iteF h hc82
          refine WH.go0 rfl rfl ?_
          refine WH.step (v := (.agg [(.int .i64 y74.Time), (.int .i64 y74.Seq), (.int .i64 y74.Rep)])) rfl (stp_load rfl (H.get 0 rfl) rfl) rfl rfl ?_
          refine WH.go0 rfl rfl ?_
          refine WH.step (v := (encSl e_Api_CSN a58)) rfl rfl rfl rfl ?_
          refine WH.go0 rfl rfl ?_
          refine WH.step (v := (.int .i64 x61)) rfl rfl rfl rfl ?_
          refine WH.go0 rfl rfl ?_
          obtain ⟨y80, hy80, h⟩ := bindS h
          refine WH.step (v := (.iptr [(.int .i64 y80.Time), (.int .i64 y80.Seq), (.int .i64 y80.Rep)] 0)) rfl (stp_idxAddr rfl (isSl_enc _ _) rfl rfl rfl hy80 (e_Api_CSN_cells _) rfl) rfl rfl ?_
          refine WH.go0 rfl rfl ?_
          refine WH.step (v := (.agg [(.int .i64 y80.Time), (.int .i64 y80.Seq), (.int .i64 y80.Rep)])) rfl rfl rfl rfl ?_
          refine WH.nil ?_
          refine WO.go0 rfl rfl ?_
          obtain ⟨y81, hy81, h⟩ := bindS h
          refine WO.step (v := (.int .i64 y81)) rfl (stp_call (vs := [(.agg [(.int .i64 y74.Time), (.int .i64 y74.Seq), (.int .i64 y74.Rep)]), (.agg [(.int .i64 y80.Time), (.int .i64 y80.Seq), (.int .i64 y80.Rep)])]) rfl rfl (s50 _ hy81 rfl _)) ?_
          refine WO.go0 rfl rfl ?_
          refine WO.step (v := (.bool (decide (y81 > 0)))) rfl rfl ?_
          refine WO.step (v := (.bool (decide (y81 > 0)))) rfl rfl ?_
          refine WO.nil ?_
          obtain rfl := Option.some.inj h
          exact ⟨(known_cons rfl (known_cons rfl (known_cons rfl (known_cons rfl (known_cons rfl known_nil))))), (H.sub (.cons_cons _ .slnil) .slnil), rfl⟩
        · replace h := iteT h hc82
          refine WH.by rfl rfl rfl ?_
          refine WH.by rfl rfl rfl ?_
          refine WH.by rfl rfl rfl ?_
          refine WH.by rfl rfl rfl ?_
          refine WH.by rfl rfl rfl ?_
          refine WH.nil ?_
          refine WO.by rfl rfl rfl ?_
          refine WO.by rfl rfl rfl ?_
          refine WO.step (v := (.bool true)) rfl rfl ?_
          refine WO.nil ?_
          obtain rfl := Option.some.inj h
          exact ⟨(known_cons rfl (known_cons rfl (known_cons rfl (known_cons rfl (known_cons rfl known_nil))))), (H.sub (.cons_cons _ .slnil) .slnil), rfl⟩
      · rintro σ S e ⟨hk, H, rfl⟩
        replace h := hOy79
        refine WO.of_known hk ?_
        refine WO.nil ?_
        refine KX.seq_n ?_
        rcases iteS h with ⟨hc84, h⟩ | ⟨hc84, h⟩
        · refine WC.condT rfl hc84 ?_
          refine WC.seqR ?_
          refine WO.step (v := (.bool false)) rfl rfl ?_
          refine WO.nil ?_
          refine WC.ret ?_
          refine KX.block_r ?_
          refine KX.seq_r ?_
          refine KX.seq_r ?_
          obtain rfl := Option.some.inj h
          exact hret _ rfl (known_cons rfl known_nil) (H.sub (.cons _ .slnil) .slnil)
        · refine WC.condF rfl hc84 ?_
          refine WC.skip ?_
          refine KX.block_n ?_
          refine KX.seq_n ?_
          refine WC.region ?_
          refine WO.step (v := (.int .i64 (ad .i64 x61 1))) rfl rfl ?_
          refine WO.step (v := (.int .i64 (ad .i64 x61 1))) rfl rfl ?_
          refine WO.nil ?_
          refine KX.seq_n ?_
          exact ih h  (known_cons rfl (known_cons rfl (known_cons rfl (known_cons rfl known_nil)))) (H.sub (.cons _ .slnil) .slnil)
    · refine WC.condF rfl hc85 ?_
      refine WC.exit ?_
      refine KX.seq_x ?_
      refine KX.seq_x ?_
      obtain rfl := Option.some.inj h
      exact hbrk _ rfl  (known_cons rfl known_nil) (H.sub .slnil .slnil)
theorem s30 : ∀ k : Nat, ∀ {a0 : Sl Api_CSN} {a1 : Sl Api_CSN} {r : Bool}, F30 k a0 a1 = some r → ∀ {vs : List PV}, vs.map PV.strip = [(encSl e_Api_CSN a0), (encSl e_Api_CSN a1)] → ∀ S : List SObj, evw env 30 vs S = some ((.bool r), S, false) := by
  intro k a0 a1 r h vs ha S
  unfold F30 at h
  refine evw_pureW (pf := fn30) rfl rfl ha (Nat.le_of_ble_eq_true rfl) (by simp [PV.clean, cleanL, clean_encSl clean_Api_CSN]) rfl ?_
  refine WB.of (pf := fn30) rfl ?_
  have H := Hp.start []
  refine WC.seqR ?_
  refine WO.step (v := (.bool false)) rfl rfl ?_
  refine WO.nil ?_
  refine WC.seqR ?_
  refine WO.step (v := (encSl e_Api_CSN a0)) rfl rfl ?_
  obtain ⟨y1, hy1, h⟩ := bindS h
  refine WO.step (v := (encSl e_Api_CSN y1)) rfl (stp_call (vs := [(encSl e_Api_CSN a0)]) rfl rfl (s47 _ hy1 (by simp only [strip_enc, List.map_cons, List.map_nil, tupled]) _)) ?_
  refine WO.step (v := (encSl e_Api_CSN a1)) rfl rfl ?_
  obtain ⟨y2, hy2, h⟩ := bindS h
  refine WO.step (v := (encSl e_Api_CSN y2)) rfl (stp_call (vs := [(encSl e_Api_CSN a1)]) rfl rfl (s47 _ hy2 (by simp only [strip_enc, List.map_cons, List.map_nil, tupled]) _)) ?_
  refine WO.step (v := (encSl e_Api_CSN y1)) rfl rfl ?_
  refine WO.step (v := (encSl e_Api_CSN y2)) rfl rfl ?_
  refine WO.nil ?_
  refine WC.seq ?_
  refine WC.seqR ?_
  refine WO.step (v := (encSl e_Api_CSN y1)) rfl rfl ?_
  refine WO.step (v := (.int .i64 (Sl.len y1))) rfl (stp_len rfl (isSl_enc _ _) rfl) ?_
  refine WO.step (v := (.int .i64 0)) rfl rfl ?_
  refine WO.nil ?_
  obtain ⟨y86, hy86, hOy86⟩ := bindS h
  refine WC.block ?_
  refine l30_L0 ?_ ?_ hy86  (known_cons rfl (known_cons rfl (known_cons rfl (known_cons rfl known_nil)))) (H.sub .slnil .slnil)
  · intro y86r he σ S  hk H; subst he; replace h := hOy86; dsimp only at h
    refine KX.of_known hk ?_
    refine KX.block_r ?_
    refine KX.seq_r ?_
    obtain rfl := Option.some.inj h
    refine KB.ret (vs := [(.bool y86r)]) (res_tmp rfl res_nil) ?_
    exact rfl
  · intro y86b he σ S  hk H; subst he; replace h := hOy86; dsimp only at h
    refine KX.of_known hk ?_
    refine KX.block_x ?_
    refine KX.seq_n ?_
    refine WC.seqR ?_
    refine WO.step (v := (.bool true)) rfl rfl ?_
    refine WO.nil ?_
    refine WC.ret ?_
    obtain rfl := Option.some.inj h
    refine KB.ret (vs := [(.bool true)]) (res_tmp rfl res_nil) ?_
    exact rfl
-- 32 prefect/vector.Covers
/-- prefect/vector.Covers -/
def F32 (k : Nat) (a0 : Sl Api_CSN) (a1 : Api_CSN) : Option Bool :=
  Option.bind (F47 k a0) fun y2 =>
  Option.bind (if (decide (a1.Rep ≥ 0)) && (decide (a1.Rep < (Sl.len y2))) then
  Option.bind (Sl.at? y2 a1.Rep) fun y8 =>
  Option.bind (F50 k a1 y8) fun y9 =>
  some (decide (y9 ≤ 0))
  else
  some false) fun y7 =>
  some y7
theorem s32 : ∀ k : Nat, ∀ {a0 : Sl Api_CSN} {a1 : Api_CSN} {r : Bool}, F32 k a0 a1 = some r → ∀ {vs : List PV}, vs.map PV.strip = [(encSl e_Api_CSN a0), (.agg [(.int .i64 a1.Time), (.int .i64 a1.Seq), (.int .i64 a1.Rep)])] → ∀ S : List SObj, evw env 32 vs S = some ((.bool r), S, false) := by
  intro k a0 a1 r h vs ha S
  unfold F32 at h
  refine evw_pureW (pf := fn32) rfl rfl ha (Nat.le_of_ble_eq_true rfl) (by simp [PV.clean, cleanL, clean_encSl clean_Api_CSN]) rfl ?_
  refine WB.of (pf := fn32) rfl ?_
  have H := Hp.start []
  refine WC.seqR ?_
  refine WO.box' rfl rfl rfl rfl H ?_
  intro i1 S hi1 H
  refine WO.step (v := (.bool false)) rfl rfl ?_
  refine WO.nil ?_
  refine WC.seqR ?_
  refine WO.step (v := (encSl e_Api_CSN a0)) rfl rfl ?_
  obtain ⟨y2, hy2, h⟩ := bindS h
  refine WO.step (v := (encSl e_Api_CSN y2)) rfl (stp_call (vs := [(encSl e_Api_CSN a0)]) rfl rfl (s47 _ hy2 (by simp only [strip_enc, List.map_cons, List.map_nil, tupled]) _)) ?_
  refine WO.step (v := (encSl e_Api_CSN y2)) rfl rfl ?_
  refine WO.nil ?_
  refine WC.seq ?_
  refine WC.draw ?_
  refine WH.step (v := (.ptr i1 2)) rfl rfl rfl rfl ?_
  refine WH.step (v := (.int .i64 a1.Rep)) rfl (stp_load rfl (H.get 0 rfl) rfl) rfl rfl ?_
  refine WH.step (v := (.bool (decide (a1.Rep ≥ 0)))) rfl rfl rfl rfl ?_
  refine WH.step (v := (.bool (decide (a1.Rep ≥ 0)))) rfl rfl rfl rfl ?_
  refine WH.split 6 (fun σ' => Known ([(0, (encSl e_Api_CSN y2)), (3, (.ptr i1 0)), (16, (.bool ((decide (a1.Rep ≥ 0)) && (decide (a1.Rep < (Sl.len y2))))))]) σ') ?_ ?_
  · cases hc3 : (decide (a1.Rep ≥ 0))
    · skip
      refine WH.by rfl rfl rfl ?_
      refine WH.by rfl rfl rfl ?_
      refine WH.by rfl rfl rfl ?_
      refine WH.by rfl rfl rfl ?_
      refine WH.by rfl rfl rfl ?_
      refine WH.step (v := (.bool false)) rfl rfl rfl rfl ?_
      refine WH.nil ?_
      exact (known_cons rfl (known_cons rfl (known_cons rfl known_nil)))
    · skip
      refine WH.go0 rfl rfl ?_
      refine WH.step (v := (.ptr i1 2)) rfl rfl rfl rfl ?_
      refine WH.go0 rfl rfl ?_
      refine WH.step (v := (.int .i64 a1.Rep)) rfl (stp_load rfl (H.get 0 rfl) rfl) rfl rfl ?_
      refine WH.go0 rfl rfl ?_
      refine WH.step (v := (encSl e_Api_CSN y2)) rfl rfl rfl rfl ?_
      refine WH.go0 rfl rfl ?_
      refine WH.step (v := (.int .i64 (Sl.len y2))) rfl (stp_len rfl (isSl_enc _ _) rfl) rfl rfl ?_
      refine WH.go0 rfl rfl ?_
      refine WH.step (v := (.bool (decide (a1.Rep < (Sl.len y2))))) rfl rfl rfl rfl ?_
      refine WH.step (v := (.bool (decide (a1.Rep < (Sl.len y2))))) rfl rfl rfl rfl ?_
      refine WH.nil ?_
      exact (known_cons rfl (known_cons rfl (known_cons rfl known_nil)))
  · intro σ hk
    refine WH.of_known hk ?_
    refine WH.step (v := (.bool ((decide (a1.Rep ≥ 0)) && (decide (a1.Rep < (Sl.len y2)))))) rfl rfl rfl rfl ?_
    obtain ⟨y7, hy7, hOy7⟩ := bindS h
    refine WD.split 3 (fun σ' S' e' => Known ([(26, (.bool y7))]) σ' ∧ Hp [] [] S' [(i1, [(.int .i64 a1.Time), (.int .i64 a1.Seq), (.int .i64 a1.Rep)])] [] ∧ e' = false) ?_ ?_
    · replace h := hy7
      cases hc10 : ((decide (a1.Rep ≥ 0)) && (decide (a1.Rep < (Sl.len y2))))
      · replace h := iteF h hc10
        refine WH.by rfl rfl rfl ?_
        refine WH.by rfl rfl rfl ?_
        refine WH.by rfl rfl rfl ?_
        refine WH.by rfl rfl rfl ?_
        refine WH.by rfl rfl rfl ?_
        refine WH.by rfl rfl rfl ?_
        refine WH.nil ?_
        refine WO.by rfl rfl rfl ?_
        refine WO.by rfl rfl rfl ?_
        refine WO.step (v := (.bool false)) rfl rfl ?_
        refine WO.nil ?_
        obtain rfl := Option.some.inj h
        exact ⟨(known_cons rfl known_nil), (H.sub (.cons_cons _ .slnil) .slnil), rfl⟩
      · replace h := iteT h hc10
        refine WH.go0 rfl rfl ?_
        refine WH.step (v := (.agg [(.int .i64 a1.Time), (.int .i64 a1.Seq), (.int .i64 a1.Rep)])) rfl (stp_load rfl (H.get 0 rfl) rfl) rfl rfl ?_
        refine WH.go0 rfl rfl ?_
        refine WH.step (v := (encSl e_Api_CSN y2)) rfl rfl rfl rfl ?_
        refine WH.go0 rfl rfl ?_
        refine WH.step (v := (.ptr i1 2)) rfl rfl rfl rfl ?_
        refine WH.go0 rfl rfl ?_
        refine WH.step (v := (.int .i64 a1.Rep)) rfl (stp_load rfl (H.get 0 rfl) rfl) rfl rfl ?_
        refine WH.go0 rfl rfl ?_
        obtain ⟨y8, hy8, h⟩ := bindS h
        refine WH.step (v := (.iptr [(.int .i64 y8.Time), (.int .i64 y8.Seq), (.int .i64 y8.Rep)] 0)) rfl (stp_idxAddr rfl (isSl_enc _ _) rfl rfl rfl hy8 (e_Api_CSN_cells _) rfl) rfl rfl ?_
        refine WH.go0 rfl rfl ?_
        refine WH.step (v := (.agg [(.int .i64 y8.Time), (.int .i64 y8.Seq), (.int .i64 y8.Rep)])) rfl rfl rfl rfl ?_
        refine WH.nil ?_
        refine WO.go0 rfl rfl ?_
        obtain ⟨y9, hy9, h⟩ := bindS h
        refine WO.step (v := (.int .i64 y9)) rfl (stp_call (vs := [(.agg [(.int .i64 a1.Time), (.int .i64 a1.Seq), (.int .i64 a1.Rep)]), (.agg [(.int .i64 y8.Time), (.int .i64 y8.Seq), (.int .i64 y8.Rep)])]) rfl rfl (s50 _ hy9 rfl _)) ?_
        refine WO.go0 rfl rfl ?_
        refine WO.step (v := (.bool (decide (y9 ≤ 0)))) rfl rfl ?_
        refine WO.step (v := (.bool (decide (y9 ≤ 0)))) rfl rfl ?_
        refine WO.nil ?_
        obtain rfl := Option.some.inj h
        exact ⟨(known_cons rfl known_nil), (H.sub (.cons_cons _ .slnil) .slnil), rfl⟩
    · rintro σ S e ⟨hk, H, rfl⟩
      replace h := hOy7
      refine WO.of_known hk ?_
      refine WO.step (v := (.bool y7)) rfl rfl ?_
      refine WO.nil ?_
      refine KX.seq_n ?_
      refine WC.ret ?_
      obtain rfl := Option.some.inj h
      refine KB.ret (vs := [(.bool y7)]) (res_tmp rfl res_nil) ?_
      exact rfl
-- 52_50 slices.MinFunc[prefect/api.Vector,prefect/api.CSN]
def F52_50_L0 (k : Nat) (a52 : Sl Api_CSN) (a55 : Api_CSN) : Nat → Int → Api_CSN → Option (Int × Api_CSN)
  | 0, _, _ => none
  | n + 1, x53, b54 =>
    if decide (x53 < (Sl.len a52)) then
    Option.bind (Sl.at? a52 x53) fun y66 =>
    Option.bind (F50 k y66 b54) fun y67 =>
    Option.bind (if decide (y67 < 0) then
    Option.bind (Sl.at? a52 x53) fun y73 =>
    some y73
    else
    some b54) fun y72 =>
    F52_50_L0 k a52 a55 n (ad .i64 x53 1) y72
    else
    some (x53, b54)
/-- slices.MinFunc[prefect/api.Vector,prefect/api.CSN] -/
def F52_50 (k : Nat) (a0 : Sl Api_CSN) : Option Api_CSN :=
  if decide ((Sl.len a0) < 1) then
  none
  else
  Option.bind (Sl.at? a0 0) fun y3 =>
  Option.bind (F52_50_L0 k a0 (Api_CSN.mk 0 0 0) k 1 y3) fun y76 =>
  some y76.2
theorem l52_50_L0 {k : Nat} {a52 : Sl Api_CSN} {a55 : Api_CSN} {S0 : List SObj} {R : List Nat} {K : KX} {i4 : Nat} {i1 : Nat} (hi4 : S0.length ≤ i4) (hi1 : S0.length ≤ i1)  {o : (Int × Api_CSN)}
    (hbrk : ∀ {σ' : Nat → PV} {S' : List SObj}, Known [(4, (.ptr i1 0)), (5, (.ptr i4 0)), (6, (.int .i64 o.1))] σ' → Hp S0 R S' [(i4, [(.int .i64 o.2.Time), (.int .i64 o.2.Seq), (.int .i64 o.2.Rep)]), (i1, [(.int .i64 a55.Time), (.int .i64 a55.Seq), (.int .i64 a55.Rep)])] [] → K (.exit 0) σ' S' false) :
    ∀ {n : Nat} {x53 : Int} {b54 : Api_CSN}, F52_50_L0 k a52 a55 n x53 b54 = some o → ∀ {σ : Nat → PV} {S : List SObj}, Known [(0, (encSl e_Api_CSN a52)), (1, (.fn (.func 50) [] [])), (4, (.ptr i1 0)), (5, (.ptr i4 0)), (6, (.int .i64 x53))] σ → Hp S0 R S [(i4, [(.int .i64 b54.Time), (.int .i64 b54.Seq), (.int .i64 b54.Rep)]), (i1, [(.int .i64 a55.Time), (.int .i64 a55.Seq), (.int .i64 a55.Rep)])] [] → WC env ⟨33, S0.length⟩ (.loop pc52L0) σ S false K := by
  intro n
  induction n with
  | zero => intro _ _ h; cases h
  | succ n ih =>
    intro x53 b54 h σ S  hk H
    rw [F52_50_L0] at h
    refine WC.loop ?_
    refine WC.of_known hk ?_
    refine WC.seq ?_
    refine WC.seqR ?_
    refine WO.step (v := (.int .i64 x53)) rfl rfl ?_
    refine WO.step (v := (encSl e_Api_CSN a52)) rfl rfl ?_
    refine WO.step (v := (.int .i64 (Sl.len a52))) rfl (stp_len rfl (isSl_enc _ _) rfl) ?_
    refine WO.step (v := (.bool (decide (x53 < (Sl.len a52))))) rfl rfl ?_
    refine WO.nil ?_
    rcases iteS h with ⟨hc75, h⟩ | ⟨hc75, h⟩
    · refine WC.condT rfl hc75 ?_
      refine WC.skip ?_
      refine KX.seq_n ?_
      refine WC.seq ?_
      refine WC.block ?_
      refine WC.seq ?_
      refine WC.draw ?_
      refine WH.step (v := (.fn (.func 50) [] [])) rfl rfl rfl rfl ?_
      refine WH.step (v := (encSl e_Api_CSN a52)) rfl rfl rfl rfl ?_
      refine WH.step (v := (.int .i64 x53)) rfl rfl rfl rfl ?_
      obtain ⟨y66, hy66, h⟩ := bindS h
      refine WH.step (v := (.iptr [(.int .i64 y66.Time), (.int .i64 y66.Seq), (.int .i64 y66.Rep)] 0)) rfl (stp_idxAddr rfl (isSl_enc _ _) rfl rfl rfl hy66 (e_Api_CSN_cells _) rfl) rfl rfl ?_
      refine WH.step (v := (.agg [(.int .i64 y66.Time), (.int .i64 y66.Seq), (.int .i64 y66.Rep)])) rfl rfl rfl rfl ?_
      refine WH.step (v := (.agg [(.int .i64 b54.Time), (.int .i64 b54.Seq), (.int .i64 b54.Rep)])) rfl (stp_load rfl (H.get 0 rfl) rfl) rfl rfl ?_
      refine WH.nil ?_
      obtain ⟨y67, hy67, h⟩ := bindS h
      refine WO.step (v := (.int .i64 y67)) rfl (stp_call (vs := [(.agg [(.int .i64 y66.Time), (.int .i64 y66.Seq), (.int .i64 y66.Rep)]), (.agg [(.int .i64 b54.Time), (.int .i64 b54.Seq), (.int .i64 b54.Rep)])]) rfl rfl (s50 _ hy67 rfl _)) ?_
      refine WO.step (v := (.bool (decide (y67 < 0)))) rfl rfl ?_
      refine WO.nil ?_
      refine KX.seq_n ?_
      obtain ⟨y72, hy72, hOy72⟩ := bindS h
      refine WC.join (fun σ' S' e' => Known ([(0, (encSl e_Api_CSN a52)), (1, (.fn (.func 50) [] [])), (4, (.ptr i1 0)), (5, (.ptr i4 0)), (6, (.int .i64 x53))]) σ' ∧ Hp S0 R S' [(i4, [(.int .i64 y72.Time), (.int .i64 y72.Seq), (.int .i64 y72.Rep)]), (i1, [(.int .i64 a55.Time), (.int .i64 a55.Seq), (.int .i64 a55.Rep)])] [] ∧ e' = false) ?_ ?_
      · replace h := hy72
        rcases iteS h with ⟨hc74, h⟩ | ⟨hc74, h⟩
        · refine WC.condT rfl hc74 ?_
          refine WC.region ?_
          refine WO.step (v := (encSl e_Api_CSN a52)) rfl rfl ?_
          refine WO.step (v := (.int .i64 x53)) rfl rfl ?_
          obtain ⟨y73, hy73, h⟩ := bindS h
          refine WO.step (v := (.iptr [(.int .i64 y73.Time), (.int .i64 y73.Seq), (.int .i64 y73.Rep)] 0)) rfl (stp_idxAddr rfl (isSl_enc _ _) rfl rfl rfl hy73 (e_Api_CSN_cells _) rfl) ?_
          refine WO.step (v := (.agg [(.int .i64 y73.Time), (.int .i64 y73.Seq), (.int .i64 y73.Rep)])) rfl rfl ?_
          refine WO.store 0 rfl H rfl rfl rfl rfl rfl rfl rfl (Nat.le_of_ble_eq_true rfl) rfl (own_e hi4) ?_
          intro S H
          replace H : Hp S0 R _ [(i4, [(.int .i64 y73.Time), (.int .i64 y73.Seq), (.int .i64 y73.Rep)]), (i1, [(.int .i64 a55.Time), (.int .i64 a55.Seq), (.int .i64 a55.Rep)])] [] := H
          refine WO.nil ?_
          refine KX.seq_n ?_
          obtain rfl := Option.some.inj h
          exact ⟨(known_cons rfl (known_cons rfl (known_cons rfl (known_cons rfl (known_cons rfl known_nil))))), (H.sub (.cons_cons _ (.cons_cons _ .slnil)) .slnil), rfl⟩
        · refine WC.condF rfl hc74 ?_
          refine WC.skip ?_
          refine KX.seq_n ?_
          obtain rfl := Option.some.inj h
          exact ⟨(known_cons rfl (known_cons rfl (known_cons rfl (known_cons rfl (known_cons rfl known_nil))))), (H.sub (.cons_cons _ (.cons_cons _ .slnil)) .slnil), rfl⟩
      · rintro σ S e ⟨hk, H, rfl⟩
        replace h := hOy72
        refine KX.of_known hk ?_
        refine KX.block_n ?_
        refine KX.seq_n ?_
        refine WC.region ?_
        refine WO.step (v := (.int .i64 x53)) rfl rfl ?_
        refine WO.step (v := (.int .i64 (ad .i64 x53 1))) rfl rfl ?_
        refine WO.step (v := (.int .i64 (ad .i64 x53 1))) rfl rfl ?_
        refine WO.nil ?_
        refine KX.seq_n ?_
        exact ih h  (known_cons rfl (known_cons rfl (known_cons rfl (known_cons rfl (known_cons rfl known_nil))))) (H.sub (.cons_cons _ (.cons_cons _ .slnil)) .slnil)
    · refine WC.condF rfl hc75 ?_
      refine WC.exit ?_
      refine KX.seq_x ?_
      refine KX.seq_x ?_
      obtain rfl := Option.some.inj h
      exact hbrk  (known_cons rfl (known_cons rfl (known_cons rfl known_nil))) (H.sub (.cons_cons _ (.cons_cons _ .slnil)) .slnil)
theorem s52_50 : ∀ k : Nat, ∀ {a0 : Sl Api_CSN} {r : Api_CSN}, F52_50 k a0 = some r → ∀ {vs : List PV}, vs.map PV.strip = [(encSl e_Api_CSN a0), (.fn (.func 50) [] [])] → ∀ S : List SObj, evw env 52 vs S = some ((.agg [(.int .i64 r.Time), (.int .i64 r.Seq), (.int .i64 r.Rep)]), S, false) := by
  intro k a0 r h vs ha S
  unfold F52_50 at h
  refine evw_pureW (pf := fn52) rfl rfl ha (Nat.le_of_ble_eq_true rfl) (by simp [PV.clean, cleanL, clean_encSl clean_Api_CSN]) rfl ?_
  refine WB.of (pf := fn52) rfl ?_
  have H := Hp.start []
  refine WC.seqR ?_
  refine WO.alloc' (ti := ty50) rfl rfl rfl rfl H ?_
  intro i1 S hi1 H
  refine WO.nil ?_
  refine WC.seq ?_
  refine WC.seqR ?_
  refine WO.step (v := (encSl e_Api_CSN a0)) rfl rfl ?_
  refine WO.step (v := (.int .i64 (Sl.len a0))) rfl (stp_len rfl (isSl_enc _ _) rfl) ?_
  refine WO.step (v := (.bool (decide ((Sl.len a0) < 1)))) rfl rfl ?_
  refine WO.nil ?_
  rcases iteS h with ⟨hc77, h⟩ | ⟨hc77, h⟩
  · refine WC.condT rfl hc77 ?_
    refine WC.region ?_
    refine WO.step (v := (.ifc 9 (.str [115, 108, 105, 99, 101, 115, 46, 77, 105, 110, 70, 117, 110, 99, 58, 32, 101, 109, 112, 116, 121, 32, 108, 105, 115, 116]))) rfl rfl ?_
    cases h
  · refine WC.condF rfl hc77 ?_
    refine WC.skip ?_
    refine KX.seq_n ?_
    refine WC.seqR ?_
    refine WO.step (v := (encSl e_Api_CSN a0)) rfl rfl ?_
    obtain ⟨y3, hy3, h⟩ := bindS h
    refine WO.step (v := (.iptr [(.int .i64 y3.Time), (.int .i64 y3.Seq), (.int .i64 y3.Rep)] 0)) rfl (stp_idxAddr rfl (isSl_enc _ _) rfl rfl rfl hy3 (e_Api_CSN_cells _) rfl) ?_
    refine WO.step (v := (.agg [(.int .i64 y3.Time), (.int .i64 y3.Seq), (.int .i64 y3.Rep)])) rfl rfl ?_
    refine WO.alloc' (ti := ty50) rfl rfl rfl rfl H ?_
    intro i4 S hi4 H
    refine WO.store 0 rfl H rfl rfl rfl rfl rfl rfl rfl (Nat.le_of_ble_eq_true rfl) rfl (own_e hi4) ?_
    intro S H
    replace H : Hp [] [] _ [(i4, [(.int .i64 y3.Time), (.int .i64 y3.Seq), (.int .i64 y3.Rep)]), (i1, [(.int .i64 0), (.int .i64 0), (.int .i64 0)])] [] := H
    refine WO.nil ?_
    refine WC.seq ?_
    refine WC.seqR ?_
    refine WO.step (v := (.int .i64 1)) rfl rfl ?_
    refine WO.nil ?_
    obtain ⟨y76, hy76, hOy76⟩ := bindS h
    refine WC.block ?_
    refine l52_50_L0 hi4 hi1 ?_ hy76  (known_cons rfl (known_cons rfl (known_cons rfl (known_cons rfl (known_cons rfl known_nil))))) (H.sub (.cons_cons _ (.cons_cons _ .slnil)) .slnil)
    · intro σ S  hk H; replace h := hOy76
      refine KX.of_known hk ?_
      refine KX.block_x ?_
      refine KX.seq_n ?_
      refine WC.seqR ?_
      refine WO.step (v := (.agg [(.int .i64 y76.2.Time), (.int .i64 y76.2.Seq), (.int .i64 y76.2.Rep)])) rfl (stp_load rfl (H.get 0 rfl) rfl) ?_
      refine WO.store 1 rfl H rfl rfl rfl rfl rfl rfl rfl (Nat.le_of_ble_eq_true rfl) rfl (own_e hi1) ?_
      intro S H
      replace H : Hp [] [] _ [(i4, [(.int .i64 y76.2.Time), (.int .i64 y76.2.Seq), (.int .i64 y76.2.Rep)]), (i1, [(.int .i64 y76.2.Time), (.int .i64 y76.2.Seq), (.int .i64 y76.2.Rep)])] [] := H
      refine WO.nil ?_
      refine WC.ret ?_
      obtain rfl := Option.some.inj h
      refine KB.ret (vs := [(.agg [(.int .i64 y76.2.Time), (.int .i64 y76.2.Seq), (.int .i64 y76.2.Rep)])]) (res_cell rfl (H.get 1 rfl) rfl res_nil) ?_
      exact rfl
-- 34 prefect/vector.Least
/-- prefect/vector.Least -/
def F34 (k : Nat) (a0 : Sl Api_CSN) : Option Api_CSN :=
  Option.bind (F47 k a0) fun y2 =>
  if (Sl.len y2) == 0 then
  some (Api_CSN.mk 0 0 0)
  else
  Option.bind (F52_50 k y2) fun y4 =>
  some y4
theorem s34 : ∀ k : Nat, ∀ {a0 : Sl Api_CSN} {r : Api_CSN}, F34 k a0 = some r → ∀ {vs : List PV}, vs.map PV.strip = [(encSl e_Api_CSN a0)] → ∀ S : List SObj, evw env 34 vs S = some ((.agg [(.int .i64 r.Time), (.int .i64 r.Seq), (.int .i64 r.Rep)]), S, false) := by
  intro k a0 r h vs ha S
  unfold F34 at h
  refine evw_pureW (pf := fn34) rfl rfl ha (Nat.le_of_ble_eq_true rfl) (by simp [PV.clean, cleanL, clean_encSl clean_Api_CSN]) rfl ?_
  refine WB.of (pf := fn34) rfl ?_
  have H := Hp.start []
  refine WC.seqR ?_
  refine WO.alloc' (ti := ty50) rfl rfl rfl rfl H ?_
  intro i1 S hi1 H
  refine WO.nil ?_
  refine WC.seqR ?_
  refine WO.step (v := (encSl e_Api_CSN a0)) rfl rfl ?_
  obtain ⟨y2, hy2, h⟩ := bindS h
  refine WO.step (v := (encSl e_Api_CSN y2)) rfl (stp_call (vs := [(encSl e_Api_CSN a0)]) rfl rfl (s47 _ hy2 (by simp only [strip_enc, List.map_cons, List.map_nil, tupled]) _)) ?_
  refine WO.step (v := (encSl e_Api_CSN y2)) rfl rfl ?_
  refine WO.nil ?_
  refine WC.seq ?_
  refine WC.seqR ?_
  refine WO.step (v := (encSl e_Api_CSN y2)) rfl rfl ?_
  refine WO.step (v := (.int .i64 (Sl.len y2))) rfl (stp_len rfl (isSl_enc _ _) rfl) ?_
  refine WO.step (v := (.bool ((Sl.len y2) == 0))) rfl rfl ?_
  refine WO.nil ?_
  rcases iteS h with ⟨hc5, h⟩ | ⟨hc5, h⟩
  · refine WC.condT rfl hc5 ?_
    refine WC.seqR ?_
    refine WO.step (v := (.agg [(.int .i64 0), (.int .i64 0), (.int .i64 0)])) rfl (stp_build (ti := ty50) rfl rfl rfl rfl rfl rfl) ?_
    refine WO.store 0 rfl H rfl rfl rfl rfl rfl rfl rfl (Nat.le_of_ble_eq_true rfl) rfl (own_e hi1) ?_
    intro S H
    replace H : Hp [] [] _ [(i1, [(.int .i64 0), (.int .i64 0), (.int .i64 0)])] [] := H
    refine WO.nil ?_
    refine WC.ret ?_
    refine KX.seq_r ?_
    obtain rfl := Option.some.inj h
    refine KB.ret (vs := [(.agg [(.int .i64 0), (.int .i64 0), (.int .i64 0)])]) (res_cell rfl (H.get 0 rfl) rfl res_nil) ?_
    exact rfl
  · refine WC.condF rfl hc5 ?_
    refine WC.skip ?_
    refine KX.seq_n ?_
    refine WC.seqR ?_
    refine WO.step (v := (encSl e_Api_CSN y2)) rfl rfl ?_
    obtain ⟨y4, hy4, h⟩ := bindS h
    refine WO.step (v := (.agg [(.int .i64 y4.Time), (.int .i64 y4.Seq), (.int .i64 y4.Rep)])) rfl (stp_call (vs := [(encSl e_Api_CSN y2), (.fn (.func 50) [] [])]) rfl rfl (s52_50 _ hy4 (by simp only [strip_enc, st_fn, List.map_cons, List.map_nil, tupled]) _)) ?_
    refine WO.store 0 rfl H rfl rfl rfl rfl rfl rfl rfl (Nat.le_of_ble_eq_true rfl) rfl (own_e hi1) ?_
    intro S H
    replace H : Hp [] [] _ [(i1, [(.int .i64 y4.Time), (.int .i64 y4.Seq), (.int .i64 y4.Rep)])] [] := H
    refine WO.nil ?_
    refine WC.ret ?_
    obtain rfl := Option.some.inj h
    refine KB.ret (vs := [(.agg [(.int .i64 y4.Time), (.int .i64 y4.Seq), (.int .i64 y4.Rep)])]) (res_cell rfl (H.get 0 rfl) rfl res_nil) ?_
    exact rfl
-- 54 prefect/vector.Same$1
/-- prefect/vector.Same$1 -/
def F54 (k : Nat) (a0 : Api_CSN) (a1 : Api_CSN) : Option Bool :=
  some ((a0.Time == a1.Time) && ((a0.Seq == a1.Seq) && ((a0.Rep == a1.Rep) && true)))
theorem s54 : ∀ k : Nat, ∀ {a0 : Api_CSN} {a1 : Api_CSN} {r : Bool}, F54 k a0 a1 = some r → ∀ {vs : List PV}, vs.map PV.strip = [(.agg [(.int .i64 a0.Time), (.int .i64 a0.Seq), (.int .i64 a0.Rep)]), (.agg [(.int .i64 a1.Time), (.int .i64 a1.Seq), (.int .i64 a1.Rep)])] → ∀ S : List SObj, evw env 54 vs S = some ((.bool r), S, false) := by
  intro k a0 a1 r h vs ha S
  unfold F54 at h
  refine evw_pureW (pf := fn54) rfl rfl ha (Nat.le_of_ble_eq_true rfl) rfl rfl ?_
  refine WB.of (pf := fn54) rfl ?_
  have H := Hp.start []
  refine WC.seqR ?_
  refine WO.box' rfl rfl rfl rfl H ?_
  intro i1 S hi1 H
  refine WO.box' rfl rfl rfl rfl H ?_
  intro i2 S hi2 H
  refine WO.step (v := (.bool false)) rfl rfl ?_
  refine WO.nil ?_
  refine WC.seqR ?_
  refine WO.step (v := (.agg [(.int .i64 a0.Time), (.int .i64 a0.Seq), (.int .i64 a0.Rep)])) rfl (stp_load rfl (H.get 1 rfl) rfl) ?_
  refine WO.step (v := (.agg [(.int .i64 a1.Time), (.int .i64 a1.Seq), (.int .i64 a1.Rep)])) rfl (stp_load rfl (H.get 0 rfl) rfl) ?_
  refine WO.step (v := (.bool ((a0.Time == a1.Time) && ((a0.Seq == a1.Seq) && ((a0.Rep == a1.Rep) && true))))) rfl (stp_eq rfl rfl rfl rfl rfl) ?_
  refine WO.step (v := (.bool ((a0.Time == a1.Time) && ((a0.Seq == a1.Seq) && ((a0.Rep == a1.Rep) && true))))) rfl rfl ?_
  refine WO.nil ?_
  refine WC.ret ?_
  obtain rfl := Option.some.inj h
  refine KB.ret (vs := [(.bool ((a0.Time == a1.Time) && ((a0.Seq == a1.Seq) && ((a0.Rep == a1.Rep) && true))))]) (res_tmp rfl res_nil) ?_
  exact rfl
-- 53_54 slices.EqualFunc[prefect/api.Vector,prefect/api.Vector,prefect/api.CSN,prefect/api.CSN]
def F53_54_L0 (k : Nat) (a41 : Sl Api_CSN) (a42 : Sl Api_CSN) (a43 : Int) : Nat → Int → Option (Out Bool Int)
  | 0, _ => none
  | n + 1, x44 =>
    if decide (x44 < a43) then
    Option.bind (Sl.at? a42 x44) fun y53 =>
    Option.bind (Sl.at? a41 x44) fun y55 =>
    Option.bind (F54 k y53 y55) fun y57 =>
    if !y57 then
    some (Out.ret false)
    else
    F53_54_L0 k a41 a42 a43 n (ad .i64 x44 1)
    else
    some (Out.brk x44)
/-- slices.EqualFunc[prefect/api.Vector,prefect/api.Vector,prefect/api.CSN,prefect/api.CSN] -/
def F53_54 (k : Nat) (a0 : Sl Api_CSN) (a1 : Sl Api_CSN) : Option Bool :=
  if (Sl.len a0) != (Sl.len a1) then
  some false
  else
  Option.bind (F53_54_L0 k a1 a0 (Sl.len a0) k 0) fun y61 =>
  match y61 with
  | .ret y61r => some y61r
  | .brk y61b =>
  some true
theorem l53_54_L0 {k : Nat} {a41 : Sl Api_CSN} {a42 : Sl Api_CSN} {a43 : Int} {S0 : List SObj} {R : List Nat} {K : KX}  {o : Out Bool Int}
    (hret : ∀ r : Bool, o = .ret r → ∀ {σ' : Nat → PV} {S' : List SObj}, Known [(6, (.bool r))] σ' → Hp S0 R S' [] [] → K .ret σ' S' false)
    (hbrk : ∀ y : Int, o = .brk y → ∀ {σ' : Nat → PV} {S' : List SObj}, Known [(17, (.int .i64 y))] σ' → Hp S0 R S' [] [] → K (.exit 0) σ' S' false) :
    ∀ {n : Nat} {x44 : Int}, F53_54_L0 k a41 a42 a43 n x44 = some o → ∀ {σ : Nat → PV} {S : List SObj}, Known [(1, (encSl e_Api_CSN a41)), (2, (.fn (.func 54) [] [])), (15, (encSl e_Api_CSN a42)), (16, (.int .i64 a43)), (17, (.int .i64 x44))] σ → Hp S0 R S [] [] → WC env ⟨32, S0.length⟩ (.loop pc53L0) σ S false K := by
  intro n
  induction n with
  | zero => intro _ h; cases h
  | succ n ih =>
    intro x44 h σ S  hk H
    rw [F53_54_L0] at h
    refine WC.loop ?_
    refine WC.of_known hk ?_
    refine WC.seqR ?_
    refine WO.step (v := (.bool (decide (x44 < a43)))) rfl rfl ?_
    refine WO.nil ?_
    refine WC.seq ?_
    rcases iteS h with ⟨hc60, h⟩ | ⟨hc60, h⟩
    · refine WC.condT rfl hc60 ?_
      refine WC.skip ?_
      refine KX.seq_n ?_
      refine WC.seq ?_
      refine WC.block ?_
      refine WC.seqR ?_
      refine WO.step (v := (.int .i64 x44)) rfl rfl ?_
      obtain ⟨y53, hy53, h⟩ := bindS h
      refine WO.step (v := (.iptr [(.int .i64 y53.Time), (.int .i64 y53.Seq), (.int .i64 y53.Rep)] 0)) rfl (stp_idxAddr rfl (isSl_enc _ _) rfl rfl rfl hy53 (e_Api_CSN_cells _) rfl) ?_
      refine WO.step (v := (.agg [(.int .i64 y53.Time), (.int .i64 y53.Seq), (.int .i64 y53.Rep)])) rfl rfl ?_
      refine WO.alloc' (ti := ty50) rfl rfl rfl rfl H ?_
      intro i54 S hi54 H
      refine WO.step (v := (.int .i64 x44)) rfl rfl ?_
      refine WO.store 0 rfl H rfl rfl rfl rfl rfl rfl rfl (Nat.le_of_ble_eq_true rfl) rfl (own_e hi54) ?_
      intro S H
      replace H : Hp S0 R _ [(i54, [(.int .i64 y53.Time), (.int .i64 y53.Seq), (.int .i64 y53.Rep)])] [] := H
      refine WO.nil ?_
      refine WC.seqR ?_
      refine WO.step (v := (encSl e_Api_CSN a41)) rfl rfl ?_
      refine WO.step (v := (.int .i64 x44)) rfl rfl ?_
      obtain ⟨y55, hy55, h⟩ := bindS h
      refine WO.step (v := (.iptr [(.int .i64 y55.Time), (.int .i64 y55.Seq), (.int .i64 y55.Rep)] 0)) rfl (stp_idxAddr rfl (isSl_enc _ _) rfl rfl rfl hy55 (e_Api_CSN_cells _) rfl) ?_
      refine WO.step (v := (.agg [(.int .i64 y55.Time), (.int .i64 y55.Seq), (.int .i64 y55.Rep)])) rfl rfl ?_
      refine WO.alloc' (ti := ty50) rfl rfl rfl rfl H ?_
      intro i56 S hi56 H
      refine WO.store 0 rfl H rfl rfl rfl rfl rfl rfl rfl (Nat.le_of_ble_eq_true rfl) rfl (own_e hi56) ?_
      intro S H
      replace H : Hp S0 R _ [(i56, [(.int .i64 y55.Time), (.int .i64 y55.Seq), (.int .i64 y55.Rep)]), (i54, [(.int .i64 y53.Time), (.int .i64 y53.Seq), (.int .i64 y53.Rep)])] [] := H
      refine WO.nil ?_
      refine WC.seqR ?_
      refine WO.step (v := (.fn (.func 54) [] [])) rfl rfl ?_
      refine WO.step (v := (.agg [(.int .i64 y53.Time), (.int .i64 y53.Seq), (.int .i64 y53.Rep)])) rfl (stp_load rfl (H.get 1 rfl) rfl) ?_
      refine WO.step (v := (.agg [(.int .i64 y55.Time), (.int .i64 y55.Seq), (.int .i64 y55.Rep)])) rfl (stp_load rfl (H.get 0 rfl) rfl) ?_
      obtain ⟨y57, hy57, h⟩ := bindS h
      refine WO.step (v := (.bool y57)) rfl (stp_call (vs := [(.agg [(.int .i64 y53.Time), (.int .i64 y53.Seq), (.int .i64 y53.Rep)]), (.agg [(.int .i64 y55.Time), (.int .i64 y55.Seq), (.int .i64 y55.Rep)])]) rfl rfl (s54 _ hy57 rfl _)) ?_
      refine WO.step (v := (.bool (!y57))) rfl rfl ?_
      refine WO.nil ?_
      rcases iteS h with ⟨hc59, h⟩ | ⟨hc59, h⟩
      · refine WC.condT rfl hc59 ?_
        refine WC.seqR ?_
        refine WO.step (v := (.bool false)) rfl rfl ?_
        refine WO.nil ?_
        refine WC.ret ?_
        refine KX.block_r ?_
        refine KX.seq_r ?_
        refine KX.seq_r ?_
        obtain rfl := Option.some.inj h
        exact hret _ rfl (known_cons rfl known_nil) (H.sub (.cons _ (.cons _ .slnil)) .slnil)
      · refine WC.condF rfl hc59 ?_
        refine WC.skip ?_
        refine KX.block_n ?_
        refine KX.seq_n ?_
        refine WC.region ?_
        refine WO.step (v := (.int .i64 (ad .i64 x44 1))) rfl rfl ?_
        refine WO.step (v := (.int .i64 (ad .i64 x44 1))) rfl rfl ?_
        refine WO.nil ?_
        refine KX.seq_n ?_
        exact ih h  (known_cons rfl (known_cons rfl (known_cons rfl (known_cons rfl (known_cons rfl known_nil))))) (H.sub (.cons _ (.cons _ .slnil)) .slnil)
    · refine WC.condF rfl hc60 ?_
      refine WC.exit ?_
      refine KX.seq_x ?_
      refine KX.seq_x ?_
      obtain rfl := Option.some.inj h
      exact hbrk _ rfl  (known_cons rfl known_nil) (H.sub .slnil .slnil)
theorem s53_54 : ∀ k : Nat, ∀ {a0 : Sl Api_CSN} {a1 : Sl Api_CSN} {r : Bool}, F53_54 k a0 a1 = some r → ∀ {vs : List PV}, vs.map PV.strip = [(encSl e_Api_CSN a0), (encSl e_Api_CSN a1), (.fn (.func 54) [] [])] → ∀ S : List SObj, evw env 53 vs S = some ((.bool r), S, false) := by
  intro k a0 a1 r h vs ha S
  unfold F53_54 at h
  refine evw_pureW (pf := fn53) rfl rfl ha (Nat.le_of_ble_eq_true rfl) (by simp [PV.clean, cleanL, clean_encSl clean_Api_CSN]) rfl ?_
  refine WB.of (pf := fn53) rfl ?_
  have H := Hp.start []
  refine WC.seqR ?_
  refine WO.step (v := (.bool false)) rfl rfl ?_
  refine WO.nil ?_
  refine WC.seq ?_
  refine WC.seqR ?_
  refine WO.step (v := (encSl e_Api_CSN a0)) rfl rfl ?_
  refine WO.step (v := (.int .i64 (Sl.len a0))) rfl (stp_len rfl (isSl_enc _ _) rfl) ?_
  refine WO.step (v := (encSl e_Api_CSN a1)) rfl rfl ?_
  refine WO.step (v := (.int .i64 (Sl.len a1))) rfl (stp_len rfl (isSl_enc _ _) rfl) ?_
  refine WO.step (v := (.bool ((Sl.len a0) != (Sl.len a1)))) rfl rfl ?_
  refine WO.nil ?_
  rcases iteS h with ⟨hc62, h⟩ | ⟨hc62, h⟩
  · refine WC.condT rfl hc62 ?_
    refine WC.seqR ?_
    refine WO.step (v := (.bool false)) rfl rfl ?_
    refine WO.nil ?_
    refine WC.ret ?_
    refine KX.seq_r ?_
    obtain rfl := Option.some.inj h
    refine KB.ret (vs := [(.bool false)]) (res_tmp rfl res_nil) ?_
    exact rfl
  · refine WC.condF rfl hc62 ?_
    refine WC.skip ?_
    refine KX.seq_n ?_
    refine WC.seq ?_
    refine WC.seqR ?_
    refine WO.step (v := (encSl e_Api_CSN a0)) rfl rfl ?_
    refine WO.step (v := (.int .i64 (Sl.len a0))) rfl (stp_len rfl (isSl_enc _ _) rfl) ?_
    refine WO.step (v := (.int .i64 0)) rfl rfl ?_
    refine WO.nil ?_
    obtain ⟨y61, hy61, hOy61⟩ := bindS h
    refine WC.block ?_
    refine l53_54_L0 ?_ ?_ hy61  (known_cons rfl (known_cons rfl (known_cons rfl (known_cons rfl (known_cons rfl known_nil))))) (H.sub .slnil .slnil)
    · intro y61r he σ S  hk H; subst he; replace h := hOy61; dsimp only at h
      refine KX.of_known hk ?_
      refine KX.block_r ?_
      refine KX.seq_r ?_
      obtain rfl := Option.some.inj h
      refine KB.ret (vs := [(.bool y61r)]) (res_tmp rfl res_nil) ?_
      exact rfl
    · intro y61b he σ S  hk H; subst he; replace h := hOy61; dsimp only at h
      refine KX.of_known hk ?_
      refine KX.block_x ?_
      refine KX.seq_n ?_
      refine WC.seqR ?_
      refine WO.step (v := (.bool true)) rfl rfl ?_
      refine WO.nil ?_
      refine WC.ret ?_
      obtain rfl := Option.some.inj h
      refine KB.ret (vs := [(.bool true)]) (res_tmp rfl res_nil) ?_
      exact rfl
-- 36 prefect/vector.Same
/-- prefect/vector.Same -/
def F36 (k : Nat) (a0 : Sl Api_CSN) (a1 : Sl Api_CSN) : Option Bool :=
  Option.bind (F47 k a0) fun y1 =>
  Option.bind (F47 k a1) fun y2 =>
  Option.bind (F53_54 k y1 y2) fun y3 =>
  some y3
theorem s36 : ∀ k : Nat, ∀ {a0 : Sl Api_CSN} {a1 : Sl Api_CSN} {r : Bool}, F36 k a0 a1 = some r → ∀ {vs : List PV}, vs.map PV.strip = [(encSl e_Api_CSN a0), (encSl e_Api_CSN a1)] → ∀ S : List SObj, evw env 36 vs S = some ((.bool r), S, false) := by
  intro k a0 a1 r h vs ha S
  unfold F36 at h
  refine evw_pureW (pf := fn36) rfl rfl ha (Nat.le_of_ble_eq_true rfl) (by simp [PV.clean, cleanL, clean_encSl clean_Api_CSN]) rfl ?_
  refine WB.of (pf := fn36) rfl ?_
  have H := Hp.start []
  refine WC.seqR ?_
  refine WO.step (v := (.bool false)) rfl rfl ?_
  refine WO.nil ?_
  refine WC.seqR ?_
  refine WO.step (v := (encSl e_Api_CSN a0)) rfl rfl ?_
  obtain ⟨y1, hy1, h⟩ := bindS h
  refine WO.step (v := (encSl e_Api_CSN y1)) rfl (stp_call (vs := [(encSl e_Api_CSN a0)]) rfl rfl (s47 _ hy1 (by simp only [strip_enc, List.map_cons, List.map_nil, tupled]) _)) ?_
  refine WO.step (v := (encSl e_Api_CSN a1)) rfl rfl ?_
  obtain ⟨y2, hy2, h⟩ := bindS h
  refine WO.step (v := (encSl e_Api_CSN y2)) rfl (stp_call (vs := [(encSl e_Api_CSN a1)]) rfl rfl (s47 _ hy2 (by simp only [strip_enc, List.map_cons, List.map_nil, tupled]) _)) ?_
  obtain ⟨y3, hy3, h⟩ := bindS h
  refine WO.step (v := (.bool y3)) rfl (stp_call (vs := [(encSl e_Api_CSN y1), (encSl e_Api_CSN y2), (.fn (.func 54) [] [])]) rfl rfl (s53_54 _ hy3 (by simp only [strip_enc, st_fn, List.map_cons, List.map_nil, tupled]) _)) ?_
  refine WO.step (v := (.bool y3)) rfl rfl ?_
  refine WO.nil ?_
  refine WC.ret ?_
  obtain rfl := Option.some.inj h
  refine KB.ret (vs := [(.bool y3)]) (res_tmp rfl res_nil) ?_
  exact rfl
-- 19 prefect/prefectref10.Equal
def F19_L0 (k : Nat) (a27 : Sl Api_CSN) (a28 : Sl Api_CSN) : Nat → Int → Option (Out Bool Int)
  | 0, _ => none
  | n + 1, x29 =>
    if decide (x29 < (Sl.len a27)) then
    Option.bind (Sl.at? a27 x29) fun y35 =>
    Option.bind (Sl.at? a28 x29) fun y36 =>
    if !((y35.Time == y36.Time) && ((y35.Seq == y36.Seq) && ((y35.Rep == y36.Rep) && true))) then
    some (Out.ret false)
    else
    F19_L0 k a27 a28 n (ad .i64 x29 1)
    else
    some (Out.brk x29)
/-- prefect/prefectref10.Equal -/
def F19 (k : Nat) (a0 : Sl Api_CSN) (a1 : Sl Api_CSN) : Option Bool :=
  if (Sl.len a0) != (Sl.len a1) then
  some false
  else
  Option.bind (F19_L0 k a0 a1 k 0) fun y40 =>
  match y40 with
  | .ret y40r => some y40r
  | .brk y40b =>
  some true
theorem l19_L0 {k : Nat} {a27 : Sl Api_CSN} {a28 : Sl Api_CSN} {S0 : List SObj} {R : List Nat} {K : KX}  {o : Out Bool Int}
    (hret : ∀ r : Bool, o = .ret r → ∀ {σ' : Nat → PV} {S' : List SObj}, Known [(4, (.bool r))] σ' → Hp S0 R S' [] [] → K .ret σ' S' false)
    (hbrk : ∀ y : Int, o = .brk y → ∀ {σ' : Nat → PV} {S' : List SObj}, Known [(5, (.int .i64 y))] σ' → Hp S0 R S' [] [] → K (.exit 0) σ' S' false) :
    ∀ {n : Nat} {x29 : Int}, F19_L0 k a27 a28 n x29 = some o → ∀ {σ : Nat → PV} {S : List SObj}, Known [(0, (encSl e_Api_CSN a27)), (1, (encSl e_Api_CSN a28)), (5, (.int .i64 x29))] σ → Hp S0 R S [] [] → WC env ⟨26, S0.length⟩ (.loop pc19L0) σ S false K := by
  intro n
  induction n with
  | zero => intro _ h; cases h
  | succ n ih =>
    intro x29 h σ S  hk H
    rw [F19_L0] at h
    refine WC.loop ?_
    refine WC.of_known hk ?_
    refine WC.seq ?_
    refine WC.seqR ?_
    refine WO.step (v := (.int .i64 x29)) rfl rfl ?_
    refine WO.step (v := (encSl e_Api_CSN a27)) rfl rfl ?_
    refine WO.step (v := (.int .i64 (Sl.len a27))) rfl (stp_len rfl (isSl_enc _ _) rfl) ?_
    refine WO.step (v := (.bool (decide (x29 < (Sl.len a27))))) rfl rfl ?_
    refine WO.nil ?_
    rcases iteS h with ⟨hc39, h⟩ | ⟨hc39, h⟩
    · refine WC.condT rfl hc39 ?_
      refine WC.skip ?_
      refine KX.seq_n ?_
      refine WC.seq ?_
      refine WC.block ?_
      refine WC.seq ?_
      refine WC.draw ?_
      refine WH.step (v := (encSl e_Api_CSN a27)) rfl rfl rfl rfl ?_
      refine WH.step (v := (.int .i64 x29)) rfl rfl rfl rfl ?_
      obtain ⟨y35, hy35, h⟩ := bindS h
      refine WH.step (v := (.iptr [(.int .i64 y35.Time), (.int .i64 y35.Seq), (.int .i64 y35.Rep)] 0)) rfl (stp_idxAddr rfl (isSl_enc _ _) rfl rfl rfl hy35 (e_Api_CSN_cells _) rfl) rfl rfl ?_
      refine WH.step (v := (.agg [(.int .i64 y35.Time), (.int .i64 y35.Seq), (.int .i64 y35.Rep)])) rfl rfl rfl rfl ?_
      refine WH.step (v := (encSl e_Api_CSN a28)) rfl rfl rfl rfl ?_
      refine WH.step (v := (.int .i64 x29)) rfl rfl rfl rfl ?_
      obtain ⟨y36, hy36, h⟩ := bindS h
      refine WH.step (v := (.iptr [(.int .i64 y36.Time), (.int .i64 y36.Seq), (.int .i64 y36.Rep)] 0)) rfl (stp_idxAddr rfl (isSl_enc _ _) rfl rfl rfl hy36 (e_Api_CSN_cells _) rfl) rfl rfl ?_
      refine WH.step (v := (.agg [(.int .i64 y36.Time), (.int .i64 y36.Seq), (.int .i64 y36.Rep)])) rfl rfl rfl rfl ?_
      refine WH.nil ?_
      refine WO.step (v := (.bool (!((y35.Time == y36.Time) && ((y35.Seq == y36.Seq) && ((y35.Rep == y36.Rep) && true)))))) rfl (stp_ne rfl rfl rfl rfl rfl) ?_
      refine WO.nil ?_
      refine KX.seq_n ?_
      rcases iteS h with ⟨hc38, h⟩ | ⟨hc38, h⟩
      · refine WC.condT rfl hc38 ?_
        refine WC.seqR ?_
        refine WO.step (v := (.bool false)) rfl rfl ?_
        refine WO.nil ?_
        refine WC.ret ?_
        refine KX.block_r ?_
        refine KX.seq_r ?_
        refine KX.seq_r ?_
        obtain rfl := Option.some.inj h
        exact hret _ rfl (known_cons rfl known_nil) (H.sub .slnil .slnil)
      · refine WC.condF rfl hc38 ?_
        refine WC.skip ?_
        refine KX.block_n ?_
        refine KX.seq_n ?_
        refine WC.region ?_
        refine WO.step (v := (.int .i64 x29)) rfl rfl ?_
        refine WO.step (v := (.int .i64 (ad .i64 x29 1))) rfl rfl ?_
        refine WO.step (v := (.int .i64 (ad .i64 x29 1))) rfl rfl ?_
        refine WO.nil ?_
        refine KX.seq_n ?_
        exact ih h  (known_cons rfl (known_cons rfl (known_cons rfl known_nil))) (H.sub .slnil .slnil)
    · refine WC.condF rfl hc39 ?_
      refine WC.exit ?_
      refine KX.seq_x ?_
      refine KX.seq_x ?_
      obtain rfl := Option.some.inj h
      exact hbrk _ rfl  (known_cons rfl known_nil) (H.sub .slnil .slnil)
theorem s19 : ∀ k : Nat, ∀ {a0 : Sl Api_CSN} {a1 : Sl Api_CSN} {r : Bool}, F19 k a0 a1 = some r → ∀ {vs : List PV}, vs.map PV.strip = [(encSl e_Api_CSN a0), (encSl e_Api_CSN a1)] → ∀ S : List SObj, evw env 19 vs S = some ((.bool r), S, false) := by
  intro k a0 a1 r h vs ha S
  unfold F19 at h
  refine evw_pureW (pf := fn19) rfl rfl ha (Nat.le_of_ble_eq_true rfl) (by simp [PV.clean, cleanL, clean_encSl clean_Api_CSN]) rfl ?_
  refine WB.of (pf := fn19) rfl ?_
  have H := Hp.start []
  refine WC.seqR ?_
  refine WO.step (v := (.bool false)) rfl rfl ?_
  refine WO.nil ?_
  refine WC.seq ?_
  refine WC.seqR ?_
  refine WO.step (v := (encSl e_Api_CSN a0)) rfl rfl ?_
  refine WO.step (v := (.int .i64 (Sl.len a0))) rfl (stp_len rfl (isSl_enc _ _) rfl) ?_
  refine WO.step (v := (encSl e_Api_CSN a1)) rfl rfl ?_
  refine WO.step (v := (.int .i64 (Sl.len a1))) rfl (stp_len rfl (isSl_enc _ _) rfl) ?_
  refine WO.step (v := (.bool ((Sl.len a0) != (Sl.len a1)))) rfl rfl ?_
  refine WO.nil ?_
  rcases iteS h with ⟨hc41, h⟩ | ⟨hc41, h⟩
  · refine WC.condT rfl hc41 ?_
    refine WC.seqR ?_
    refine WO.step (v := (.bool false)) rfl rfl ?_
    refine WO.nil ?_
    refine WC.ret ?_
    refine KX.seq_r ?_
    obtain rfl := Option.some.inj h
    refine KB.ret (vs := [(.bool false)]) (res_tmp rfl res_nil) ?_
    exact rfl
  · refine WC.condF rfl hc41 ?_
    refine WC.skip ?_
    refine KX.seq_n ?_
    refine WC.seq ?_
    refine WC.seqR ?_
    refine WO.step (v := (.int .i64 0)) rfl rfl ?_
    refine WO.nil ?_
    obtain ⟨y40, hy40, hOy40⟩ := bindS h
    refine WC.block ?_
    refine l19_L0 ?_ ?_ hy40  (known_cons rfl (known_cons rfl (known_cons rfl known_nil))) (H.sub .slnil .slnil)
    · intro y40r he σ S  hk H; subst he; replace h := hOy40; dsimp only at h
      refine KX.of_known hk ?_
      refine KX.block_r ?_
      refine KX.seq_r ?_
      obtain rfl := Option.some.inj h
      refine KB.ret (vs := [(.bool y40r)]) (res_tmp rfl res_nil) ?_
      exact rfl
    · intro y40b he σ S  hk H; subst he; replace h := hOy40; dsimp only at h
      refine KX.of_known hk ?_
      refine KX.block_x ?_
      refine KX.seq_n ?_
      refine WC.seqR ?_
      refine WO.step (v := (.bool true)) rfl rfl ?_
      refine WO.nil ?_
      refine WC.ret ?_
      obtain rfl := Option.some.inj h
      refine KB.ret (vs := [(.bool true)]) (res_tmp rfl res_nil) ?_
      exact rfl
-- 21 prefect/prefectref10.New
def F21_L0 (k : Nat) (a28 : Int) : Nat → (Sl Api_CSN) → Int → Option ((Sl Api_CSN) × Int)
  | 0, _, _ => none
  | n + 1, x29, x31 =>
    if decide (x31 < (imin a28 6)) then
    Option.bind (Sl.app? 24 x29 (Sl.l (some [(Api_CSN.mk 0 0 x31)]))) fun z37 =>
    F21_L0 k a28 n z37 (ad .i64 x31 1)
    else
    some (x29, x31)
/-- prefect/prefectref10.New -/
def F21 (k : Nat) (a0 : Int) : Option (Sl Api_CSN) :=
  Option.bind (F21_L0 k a0 k none 0) fun y41 =>
  some y41.1
theorem l21_L0 {k : Nat} {a28 : Int} {S0 : List SObj} {R : List Nat} {K : KX}  {o : ((Sl Api_CSN) × Int)}
    (hbrk : ∀ {σ' : Nat → PV} {S' : List SObj}, ∀ (v40 : PV) (_ : IsSl e_Api_CSN o.1 v40), Known [(3, v40), (4, (.int .i64 o.2))] σ' → Hp S0 R S' [] [(v40, 3)] → K (.exit 0) σ' S' false) :
    ∀ {n : Nat} {x29 : Sl Api_CSN} {x31 : Int}, F21_L0 k a28 n x29 x31 = some o → ∀ {σ : Nat → PV} {S : List SObj}, ∀ (v30 : PV) (_ : IsSl e_Api_CSN x29 v30), Known [(0, (.int .i64 a28)), (3, v30), (4, (.int .i64 x31))] σ → Hp S0 R S [] [(v30, 3)] → WC env ⟨17, S0.length⟩ (.loop pc21L0) σ S false K := by
  intro n
  induction n with
  | zero => intro _ _ h; cases h
  | succ n ih =>
    intro x29 x31 h σ S v30 hv30 hk H
    rw [F21_L0] at h
    refine WC.loop ?_
    refine WC.of_known hk ?_
    refine WC.seq ?_
    refine WC.seqR ?_
    refine WO.step (v := (.int .i64 x31)) rfl rfl ?_
    refine WO.step (v := (.int .i64 a28)) rfl rfl ?_
    refine WO.step (v := (.int .i64 (imin a28 6))) rfl rfl ?_
    refine WO.step (v := (.bool (decide (x31 < (imin a28 6))))) rfl rfl ?_
    refine WO.nil ?_
    rcases iteS h with ⟨hc39, h⟩ | ⟨hc39, h⟩
    · refine WC.condT rfl hc39 ?_
      refine WC.skip ?_
      refine KX.seq_n ?_
      refine WC.seq ?_
      refine WC.block ?_
      refine WC.region ?_
      refine WO.step (v := v30) rfl rfl ?_
      refine WO.step (v := (.int .i64 x31)) rfl rfl ?_
      refine WO.step (v := (.agg [(.int .i64 0), (.int .i64 0), (.int .i64 x31)])) rfl (stp_build (ti := ty50) rfl rfl rfl rfl rfl (fill_cons rfl rfl rfl rfl (Nat.le_of_ble_eq_true rfl) rfl rfl)) ?_
      refine WO.step rfl (stp_buildSlice (ys := [(Api_CSN.mk 0 0 x31)]) (f := e_Api_CSN) (parts := [(0, (.agg [(.int .i64 0), (.int .i64 0), (.int .i64 x31)]))]) rfl rfl rfl rfl rfl rfl (fc ⟨rfl, rfl⟩ (fun p hp => nomatch hp)) rfl) ?_
      have hv36 : IsSl e_Api_CSN (some [(Api_CSN.mk 0 0 x31)]) _ := ⟨.full, rfl⟩
      obtain ⟨z37, hz37, h⟩ := bindS h
      refine WO.ex rfl (stp_app (f := e_Api_CSN) (ei := ty50) H 0 rfl rfl hv30 rfl hv36 rfl rfl rfl rfl (fun a => (e_Api_CSN_one a).2.1) hz37) ?_
      rintro v38 S ⟨hv38, H⟩
      replace H : Hp S0 R _ [] [(v38, 3)] := H
      refine WO.step (v := v38) rfl rfl ?_
      refine WO.nil ?_
      refine KX.block_n ?_
      refine KX.seq_n ?_
      refine WC.region ?_
      refine WO.step (v := (.int .i64 x31)) rfl rfl ?_
      refine WO.step (v := (.int .i64 (ad .i64 x31 1))) rfl rfl ?_
      refine WO.step (v := (.int .i64 (ad .i64 x31 1))) rfl rfl ?_
      refine WO.nil ?_
      refine KX.seq_n ?_
      exact ih h v38 (hv38) (known_cons rfl (known_cons rfl (known_cons rfl known_nil))) (H.sub .slnil (.cons_cons _ .slnil))
    · refine WC.condF rfl hc39 ?_
      refine WC.exit ?_
      refine KX.seq_x ?_
      refine KX.seq_x ?_
      obtain rfl := Option.some.inj h
      exact hbrk v30 (hv30) (known_cons rfl (known_cons rfl known_nil)) (H.sub .slnil (.cons_cons _ .slnil))
theorem s21 : ∀ k : Nat, ∀ {a0 : Int} {r : (Sl Api_CSN)}, F21 k a0 = some r → ∀ {vs : List PV}, vs.map PV.strip = [(.int .i64 a0)] → ∀ S : List SObj, evw env 21 vs S = some ((encSl e_Api_CSN r), S, false) := by
  intro k a0 r h vs ha S
  unfold F21 at h
  refine evw_pureW (pf := fn21) rfl rfl ha (Nat.le_of_ble_eq_true rfl) rfl (by simp [PV.clean, cleanL, clean_encSl clean_Api_CSN]) ?_
  refine WB.of (pf := fn21) rfl ?_
  have H := Hp.start []
  refine WC.seqR ?_
  refine WO.step (v := .nils) rfl rfl ?_
  refine WO.nil ?_
  refine WC.seqR ?_
  refine WO.step (v := .nils) rfl rfl ?_
  refine WO.nil ?_
  refine WC.seq ?_
  refine WC.seqR ?_
  refine WO.step (v := (.int .i64 0)) rfl rfl ?_
  refine WO.nil ?_
  obtain ⟨y41, hy41, hOy41⟩ := bindS h
  refine WC.block ?_
  have H := H.addNil 3
  refine l21_L0 ?_ hy41 .nils ((isSl_nil _)) (known_cons rfl (known_cons rfl (known_cons rfl known_nil))) (H.sub .slnil (.cons_cons _ .slnil))
  · intro σ S v42 hv42 hk H; replace h := hOy41
    refine KX.of_known hk ?_
    refine KX.block_x ?_
    refine KX.seq_n ?_
    refine WC.seqR ?_
    refine WO.step (v := v42) rfl rfl ?_
    refine WO.step (v := v42) rfl rfl ?_
    refine WO.nil ?_
    refine WC.ret ?_
    obtain rfl := Option.some.inj h
    refine KB.ret (vs := [v42]) (res_tmp rfl res_nil) ?_
    exact (by simp only [st_tup, List.map_cons, List.map_nil, tupled, hv42.strip])
-- 45 prefect/prefectref10.Is
/-- prefect/prefectref10.Is -/
def F45 (k : Nat) (a0 : Api_CSN) : Option Bool :=
  some ((((((decide (a0.Time ≥ 0)) && (decide (a0.Time ≤ 1099511627776))) && (decide (a0.Seq ≥ 0))) && (decide (a0.Seq ≤ 65535))) && (decide (a0.Rep ≥ 0))) && (decide (a0.Rep < 6)))
theorem s45 : ∀ k : Nat, ∀ {a0 : Api_CSN} {r : Bool}, F45 k a0 = some r → ∀ {vs : List PV}, vs.map PV.strip = [(.agg [(.int .i64 a0.Time), (.int .i64 a0.Seq), (.int .i64 a0.Rep)])] → ∀ S : List SObj, evw env 45 vs S = some ((.bool r), S, false) := by
  intro k a0 r h vs ha S
  unfold F45 at h
  refine evw_pureW (pf := fn45) rfl rfl ha (Nat.le_of_ble_eq_true rfl) rfl rfl ?_
  refine WB.of (pf := fn45) rfl ?_
  have H := Hp.start []
  refine WC.seqR ?_
  refine WO.box' rfl rfl rfl rfl H ?_
  intro i1 S hi1 H
  refine WO.step (v := (.bool false)) rfl rfl ?_
  refine WO.nil ?_
  refine WC.seqR ?_
  refine WO.step (v := (.ptr i1 0)) rfl rfl ?_
  refine WO.step (v := (.int .i64 a0.Time)) rfl (stp_load rfl (H.get 0 rfl) rfl) ?_
  refine WO.step (v := (.bool (decide (a0.Time ≥ 0)))) rfl rfl ?_
  refine WO.step (v := (.bool (decide (a0.Time ≥ 0)))) rfl rfl ?_
  refine WO.split 4 (fun σ' S' e' => Known ([(1, (.ptr i1 0)), (10, (.bool ((decide (a0.Time ≥ 0)) && (decide (a0.Time ≤ 1099511627776)))))]) σ' ∧ Hp [] [] S' [(i1, [(.int .i64 a0.Time), (.int .i64 a0.Seq), (.int .i64 a0.Rep)])] [] ∧ e' = false) ?_ ?_
  · cases hc2 : (decide (a0.Time ≥ 0))
    · skip
      refine WO.by rfl rfl rfl ?_
      refine WO.by rfl rfl rfl ?_
      refine WO.by rfl rfl rfl ?_
      refine WO.step (v := (.bool false)) rfl rfl ?_
      refine WO.nil ?_
      exact ⟨(known_cons rfl (known_cons rfl known_nil)), H, rfl⟩
    · skip
      refine WO.go0 rfl rfl ?_
      refine WO.step (v := (.ptr i1 0)) rfl rfl ?_
      refine WO.go0 rfl rfl ?_
      refine WO.step (v := (.int .i64 a0.Time)) rfl (stp_load rfl (H.get 0 rfl) rfl) ?_
      refine WO.go0 rfl rfl ?_
      refine WO.step (v := (.bool (decide (a0.Time ≤ 1099511627776)))) rfl rfl ?_
      refine WO.step (v := (.bool (decide (a0.Time ≤ 1099511627776)))) rfl rfl ?_
      refine WO.nil ?_
      exact ⟨(known_cons rfl (known_cons rfl known_nil)), H, rfl⟩
  · rintro σ S e ⟨hk, H, rfl⟩
    refine WO.of_known hk ?_
    refine WO.step (v := (.bool ((decide (a0.Time ≥ 0)) && (decide (a0.Time ≤ 1099511627776))))) rfl rfl ?_
    refine WO.split 4 (fun σ' S' e' => Known ([(1, (.ptr i1 0)), (15, (.bool (((decide (a0.Time ≥ 0)) && (decide (a0.Time ≤ 1099511627776))) && (decide (a0.Seq ≥ 0)))))]) σ' ∧ Hp [] [] S' [(i1, [(.int .i64 a0.Time), (.int .i64 a0.Seq), (.int .i64 a0.Rep)])] [] ∧ e' = false) ?_ ?_
    · cases hc3 : ((decide (a0.Time ≥ 0)) && (decide (a0.Time ≤ 1099511627776)))
      · skip
        refine WO.by rfl rfl rfl ?_
        refine WO.by rfl rfl rfl ?_
        refine WO.by rfl rfl rfl ?_
        refine WO.step (v := (.bool false)) rfl rfl ?_
        refine WO.nil ?_
        exact ⟨(known_cons rfl (known_cons rfl known_nil)), H, rfl⟩
      · skip
        refine WO.go0 rfl rfl ?_
        refine WO.step (v := (.ptr i1 1)) rfl rfl ?_
        refine WO.go0 rfl rfl ?_
        refine WO.step (v := (.int .i64 a0.Seq)) rfl (stp_load rfl (H.get 0 rfl) rfl) ?_
        refine WO.go0 rfl rfl ?_
        refine WO.step (v := (.bool (decide (a0.Seq ≥ 0)))) rfl rfl ?_
        refine WO.step (v := (.bool (decide (a0.Seq ≥ 0)))) rfl rfl ?_
        refine WO.nil ?_
        exact ⟨(known_cons rfl (known_cons rfl known_nil)), H, rfl⟩
    · rintro σ S e ⟨hk, H, rfl⟩
      refine WO.of_known hk ?_
      refine WO.step (v := (.bool (((decide (a0.Time ≥ 0)) && (decide (a0.Time ≤ 1099511627776))) && (decide (a0.Seq ≥ 0))))) rfl rfl ?_
      refine WO.split 4 (fun σ' S' e' => Known ([(1, (.ptr i1 0)), (20, (.bool ((((decide (a0.Time ≥ 0)) && (decide (a0.Time ≤ 1099511627776))) && (decide (a0.Seq ≥ 0))) && (decide (a0.Seq ≤ 65535)))))]) σ' ∧ Hp [] [] S' [(i1, [(.int .i64 a0.Time), (.int .i64 a0.Seq), (.int .i64 a0.Rep)])] [] ∧ e' = false) ?_ ?_
      · cases hc4 : (((decide (a0.Time ≥ 0)) && (decide (a0.Time ≤ 1099511627776))) && (decide (a0.Seq ≥ 0)))
        · skip
          refine WO.by rfl rfl rfl ?_
          refine WO.by rfl rfl rfl ?_
          refine WO.by rfl rfl rfl ?_
          refine WO.step (v := (.bool false)) rfl rfl ?_
          refine WO.nil ?_
          exact ⟨(known_cons rfl (known_cons rfl known_nil)), H, rfl⟩
        · skip
          refine WO.go0 rfl rfl ?_
          refine WO.step (v := (.ptr i1 1)) rfl rfl ?_
          refine WO.go0 rfl rfl ?_
          refine WO.step (v := (.int .i64 a0.Seq)) rfl (stp_load rfl (H.get 0 rfl) rfl) ?_
          refine WO.go0 rfl rfl ?_
          refine WO.step (v := (.bool (decide (a0.Seq ≤ 65535)))) rfl rfl ?_
          refine WO.step (v := (.bool (decide (a0.Seq ≤ 65535)))) rfl rfl ?_
          refine WO.nil ?_
          exact ⟨(known_cons rfl (known_cons rfl known_nil)), H, rfl⟩
      · rintro σ S e ⟨hk, H, rfl⟩
        refine WO.of_known hk ?_
        refine WO.step (v := (.bool ((((decide (a0.Time ≥ 0)) && (decide (a0.Time ≤ 1099511627776))) && (decide (a0.Seq ≥ 0))) && (decide (a0.Seq ≤ 65535))))) rfl rfl ?_
        refine WO.split 4 (fun σ' S' e' => Known ([(1, (.ptr i1 0)), (25, (.bool (((((decide (a0.Time ≥ 0)) && (decide (a0.Time ≤ 1099511627776))) && (decide (a0.Seq ≥ 0))) && (decide (a0.Seq ≤ 65535))) && (decide (a0.Rep ≥ 0)))))]) σ' ∧ Hp [] [] S' [(i1, [(.int .i64 a0.Time), (.int .i64 a0.Seq), (.int .i64 a0.Rep)])] [] ∧ e' = false) ?_ ?_
        · cases hc5 : ((((decide (a0.Time ≥ 0)) && (decide (a0.Time ≤ 1099511627776))) && (decide (a0.Seq ≥ 0))) && (decide (a0.Seq ≤ 65535)))
          · skip
            refine WO.by rfl rfl rfl ?_
            refine WO.by rfl rfl rfl ?_
            refine WO.by rfl rfl rfl ?_
            refine WO.step (v := (.bool false)) rfl rfl ?_
            refine WO.nil ?_
            exact ⟨(known_cons rfl (known_cons rfl known_nil)), H, rfl⟩
          · skip
            refine WO.go0 rfl rfl ?_
            refine WO.step (v := (.ptr i1 2)) rfl rfl ?_
            refine WO.go0 rfl rfl ?_
            refine WO.step (v := (.int .i64 a0.Rep)) rfl (stp_load rfl (H.get 0 rfl) rfl) ?_
            refine WO.go0 rfl rfl ?_
            refine WO.step (v := (.bool (decide (a0.Rep ≥ 0)))) rfl rfl ?_
            refine WO.step (v := (.bool (decide (a0.Rep ≥ 0)))) rfl rfl ?_
            refine WO.nil ?_
            exact ⟨(known_cons rfl (known_cons rfl known_nil)), H, rfl⟩
        · rintro σ S e ⟨hk, H, rfl⟩
          refine WO.of_known hk ?_
          refine WO.step (v := (.bool (((((decide (a0.Time ≥ 0)) && (decide (a0.Time ≤ 1099511627776))) && (decide (a0.Seq ≥ 0))) && (decide (a0.Seq ≤ 65535))) && (decide (a0.Rep ≥ 0))))) rfl rfl ?_
          refine WO.split 4 (fun σ' S' e' => Known ([(30, (.bool ((((((decide (a0.Time ≥ 0)) && (decide (a0.Time ≤ 1099511627776))) && (decide (a0.Seq ≥ 0))) && (decide (a0.Seq ≤ 65535))) && (decide (a0.Rep ≥ 0))) && (decide (a0.Rep < 6)))))]) σ' ∧ Hp [] [] S' [(i1, [(.int .i64 a0.Time), (.int .i64 a0.Seq), (.int .i64 a0.Rep)])] [] ∧ e' = false) ?_ ?_
          · cases hc6 : (((((decide (a0.Time ≥ 0)) && (decide (a0.Time ≤ 1099511627776))) && (decide (a0.Seq ≥ 0))) && (decide (a0.Seq ≤ 65535))) && (decide (a0.Rep ≥ 0)))
            · skip
              refine WO.by rfl rfl rfl ?_
              refine WO.by rfl rfl rfl ?_
              refine WO.by rfl rfl rfl ?_
              refine WO.step (v := (.bool false)) rfl rfl ?_
              refine WO.nil ?_
              exact ⟨(known_cons rfl known_nil), H, rfl⟩
            · skip
              refine WO.go0 rfl rfl ?_
              refine WO.step (v := (.ptr i1 2)) rfl rfl ?_
              refine WO.go0 rfl rfl ?_
              refine WO.step (v := (.int .i64 a0.Rep)) rfl (stp_load rfl (H.get 0 rfl) rfl) ?_
              refine WO.go0 rfl rfl ?_
              refine WO.step (v := (.bool (decide (a0.Rep < 6)))) rfl rfl ?_
              refine WO.step (v := (.bool (decide (a0.Rep < 6)))) rfl rfl ?_
              refine WO.nil ?_
              exact ⟨(known_cons rfl known_nil), H, rfl⟩
          · rintro σ S e ⟨hk, H, rfl⟩
            refine WO.of_known hk ?_
            refine WO.step (v := (.bool ((((((decide (a0.Time ≥ 0)) && (decide (a0.Time ≤ 1099511627776))) && (decide (a0.Seq ≥ 0))) && (decide (a0.Seq ≤ 65535))) && (decide (a0.Rep ≥ 0))) && (decide (a0.Rep < 6))))) rfl rfl ?_
            refine WO.nil ?_
            refine WC.ret ?_
            obtain rfl := Option.some.inj h
            refine KB.ret (vs := [(.bool ((((((decide (a0.Time ≥ 0)) && (decide (a0.Time ≤ 1099511627776))) && (decide (a0.Seq ≥ 0))) && (decide (a0.Seq ≤ 65535))) && (decide (a0.Rep ≥ 0))) && (decide (a0.Rep < 6))))]) (res_tmp rfl res_nil) ?_
            exact rfl
-- 23 prefect/prefectref10.IsVector
def F23_L0 (k : Nat) (a52 : Sl Api_CSN) : Nat → Int → Option (Out Bool Int)
  | 0, _ => none
  | n + 1, x53 =>
    if decide (x53 < (Sl.len a52)) then
    Option.bind (Sl.at? a52 x53) fun y66 =>
    Option.bind (F45 k y66) fun y67 =>
    Option.bind (if !y67 then
    some true
    else
    Option.bind (Sl.at? a52 x53) fun y73 =>
    some (y73.Rep != x53)) fun y72 =>
    if y72 then
    some (Out.ret false)
    else
    F23_L0 k a52 n (ad .i64 x53 1)
    else
    some (Out.brk x53)
/-- prefect/prefectref10.IsVector -/
def F23 (k : Nat) (a0 : Sl Api_CSN) : Option Bool :=
  Option.bind (F23_L0 k a0 k 0) fun y78 =>
  match y78 with
  | .ret y78r => some y78r
  | .brk y78b =>
  some (decide ((Sl.len a0) ≤ 6))
theorem l23_L0 {k : Nat} {a52 : Sl Api_CSN} {S0 : List SObj} {R : List Nat} {K : KX}  {o : Out Bool Int}
    (hret : ∀ r : Bool, o = .ret r → ∀ {σ' : Nat → PV} {S' : List SObj}, Known [(2, (.bool r))] σ' → Hp S0 R S' [] [] → K .ret σ' S' false)
    (hbrk : ∀ y : Int, o = .brk y → ∀ {σ' : Nat → PV} {S' : List SObj}, Known [(0, (encSl e_Api_CSN a52)), (3, (.int .i64 y))] σ' → Hp S0 R S' [] [] → K (.exit 0) σ' S' false) :
    ∀ {n : Nat} {x53 : Int}, F23_L0 k a52 n x53 = some o → ∀ {σ : Nat → PV} {S : List SObj}, Known [(0, (encSl e_Api_CSN a52)), (3, (.int .i64 x53))] σ → Hp S0 R S [] [] → WC env ⟨28, S0.length⟩ (.loop pc23L0) σ S false K := by
  intro n
  induction n with
  | zero => intro _ h; cases h
  | succ n ih =>
    intro x53 h σ S  hk H
    rw [F23_L0] at h
    refine WC.loop ?_
    refine WC.of_known hk ?_
    refine WC.seq ?_
    refine WC.seqR ?_
    refine WO.step (v := (.int .i64 x53)) rfl rfl ?_
    refine WO.step (v := (encSl e_Api_CSN a52)) rfl rfl ?_
    refine WO.step (v := (.int .i64 (Sl.len a52))) rfl (stp_len rfl (isSl_enc _ _) rfl) ?_
    refine WO.step (v := (.bool (decide (x53 < (Sl.len a52))))) rfl rfl ?_
    refine WO.nil ?_
    rcases iteS h with ⟨hc77, h⟩ | ⟨hc77, h⟩
    · refine WC.condT rfl hc77 ?_
      refine WC.skip ?_
      refine KX.seq_n ?_
      refine WC.seq ?_
      refine WC.block ?_
      refine WC.seqR ?_
      refine WO.step (v := (encSl e_Api_CSN a52)) rfl rfl ?_
      refine WO.step (v := (.int .i64 x53)) rfl rfl ?_
      obtain ⟨y66, hy66, h⟩ := bindS h
      refine WO.step (v := (.iptr [(.int .i64 y66.Time), (.int .i64 y66.Seq), (.int .i64 y66.Rep)] 0)) rfl (stp_idxAddr rfl (isSl_enc _ _) rfl rfl rfl hy66 (e_Api_CSN_cells _) rfl) ?_
      refine WO.step (v := (.agg [(.int .i64 y66.Time), (.int .i64 y66.Seq), (.int .i64 y66.Rep)])) rfl rfl ?_
      obtain ⟨y67, hy67, h⟩ := bindS h
      refine WO.step (v := (.bool y67)) rfl (stp_call (vs := [(.agg [(.int .i64 y66.Time), (.int .i64 y66.Seq), (.int .i64 y66.Rep)])]) rfl rfl (s45 _ hy67 rfl _)) ?_
      refine WO.step (v := (.bool (!y67))) rfl rfl ?_
      refine WO.step (v := (.bool (!y67))) rfl rfl ?_
      obtain ⟨y72, hy72, hOy72⟩ := bindS h
      refine WO.split 8 (fun σ' S' e' => Known ([(0, (encSl e_Api_CSN a52)), (3, (.int .i64 x53)), (24, (.bool y72))]) σ' ∧ Hp S0 R S' [] [] ∧ e' = false) ?_ ?_
      · replace h := hy72
        cases hc74 : (!y67)
        · replace h := iteF h hc74
          refine WO.go0 rfl rfl ?_
          refine WO.step (v := (encSl e_Api_CSN a52)) rfl rfl ?_
          refine WO.go0 rfl rfl ?_
          refine WO.step (v := (.int .i64 x53)) rfl rfl ?_
          refine WO.go0 rfl rfl ?_
          obtain ⟨y73, hy73, h⟩ := bindS h
          refine WO.step (v := (.iptr [(.int .i64 y73.Time), (.int .i64 y73.Seq), (.int .i64 y73.Rep)] 0)) rfl (stp_idxAddr rfl (isSl_enc _ _) rfl rfl rfl hy73 (e_Api_CSN_cells _) rfl) ?_
          refine WO.go0 rfl rfl ?_
          refine WO.step (v := (.iptr [(.int .i64 y73.Time), (.int .i64 y73.Seq), (.int .i64 y73.Rep)] 2)) rfl rfl ?_
          refine WO.go0 rfl rfl ?_
          refine WO.step (v := (.int .i64 y73.Rep)) rfl rfl ?_
          refine WO.go0 rfl rfl ?_
          refine WO.step (v := (.int .i64 x53)) rfl rfl ?_
          refine WO.go0 rfl rfl ?_
          refine WO.step (v := (.bool (y73.Rep != x53))) rfl rfl ?_
          refine WO.step (v := (.bool (y73.Rep != x53))) rfl rfl ?_
          refine WO.nil ?_
          obtain rfl := Option.some.inj h
          exact ⟨(known_cons rfl (known_cons rfl (known_cons rfl known_nil))), (H.sub .slnil .slnil), rfl⟩
        · replace h := iteT h hc74
          refine WO.by rfl rfl rfl ?_
          refine WO.by rfl rfl rfl ?_
          refine WO.by rfl rfl rfl ?_
          refine WO.by rfl rfl rfl ?_
          refine WO.by rfl rfl rfl ?_
          refine WO.by rfl rfl rfl ?_
          refine WO.by rfl rfl rfl ?_
          refine WO.step (v := (.bool true)) rfl rfl ?_
          refine WO.nil ?_
          obtain rfl := Option.some.inj h
          exact ⟨(known_cons rfl (known_cons rfl (known_cons rfl known_nil))), (H.sub .slnil .slnil), rfl⟩
      · rintro σ S e ⟨hk, H, rfl⟩
        replace h := hOy72
        refine WO.of_known hk ?_
        refine WO.nil ?_
        rcases iteS h with ⟨hc76, h⟩ | ⟨hc76, h⟩
        · refine WC.condT rfl hc76 ?_
          refine WC.seqR ?_
          refine WO.step (v := (.bool false)) rfl rfl ?_
          refine WO.nil ?_
          refine WC.ret ?_
          refine KX.block_r ?_
          refine KX.seq_r ?_
          refine KX.seq_r ?_
          obtain rfl := Option.some.inj h
          exact hret _ rfl (known_cons rfl known_nil) (H.sub .slnil .slnil)
        · refine WC.condF rfl hc76 ?_
          refine WC.skip ?_
          refine KX.block_n ?_
          refine KX.seq_n ?_
          refine WC.region ?_
          refine WO.step (v := (.int .i64 x53)) rfl rfl ?_
          refine WO.step (v := (.int .i64 (ad .i64 x53 1))) rfl rfl ?_
          refine WO.step (v := (.int .i64 (ad .i64 x53 1))) rfl rfl ?_
          refine WO.nil ?_
          refine KX.seq_n ?_
          exact ih h  (known_cons rfl (known_cons rfl known_nil)) (H.sub .slnil .slnil)
    · refine WC.condF rfl hc77 ?_
      refine WC.exit ?_
      refine KX.seq_x ?_
      refine KX.seq_x ?_
      obtain rfl := Option.some.inj h
      exact hbrk _ rfl  (known_cons rfl (known_cons rfl known_nil)) (H.sub .slnil .slnil)
theorem s23 : ∀ k : Nat, ∀ {a0 : Sl Api_CSN} {r : Bool}, F23 k a0 = some r → ∀ {vs : List PV}, vs.map PV.strip = [(encSl e_Api_CSN a0)] → ∀ S : List SObj, evw env 23 vs S = some ((.bool r), S, false) := by
  intro k a0 r h vs ha S
  unfold F23 at h
  refine evw_pureW (pf := fn23) rfl rfl ha (Nat.le_of_ble_eq_true rfl) (by simp [PV.clean, cleanL, clean_encSl clean_Api_CSN]) rfl ?_
  refine WB.of (pf := fn23) rfl ?_
  have H := Hp.start []
  refine WC.seqR ?_
  refine WO.step (v := (.bool false)) rfl rfl ?_
  refine WO.nil ?_
  refine WC.seq ?_
  refine WC.seqR ?_
  refine WO.step (v := (.int .i64 0)) rfl rfl ?_
  refine WO.nil ?_
  obtain ⟨y78, hy78, hOy78⟩ := bindS h
  refine WC.block ?_
  refine l23_L0 ?_ ?_ hy78  (known_cons rfl (known_cons rfl known_nil)) (H.sub .slnil .slnil)
  · intro y78r he σ S  hk H; subst he; replace h := hOy78; dsimp only at h
    refine KX.of_known hk ?_
    refine KX.block_r ?_
    refine KX.seq_r ?_
    obtain rfl := Option.some.inj h
    refine KB.ret (vs := [(.bool y78r)]) (res_tmp rfl res_nil) ?_
    exact rfl
  · intro y78b he σ S  hk H; subst he; replace h := hOy78; dsimp only at h
    refine KX.of_known hk ?_
    refine KX.block_x ?_
    refine KX.seq_n ?_
    refine WC.seqR ?_
    refine WO.step (v := (encSl e_Api_CSN a0)) rfl rfl ?_
    refine WO.step (v := (.int .i64 (Sl.len a0))) rfl (stp_len rfl (isSl_enc _ _) rfl) ?_
    refine WO.step (v := (.bool (decide ((Sl.len a0) ≤ 6)))) rfl rfl ?_
    refine WO.step (v := (.bool (decide ((Sl.len a0) ≤ 6)))) rfl rfl ?_
    refine WO.nil ?_
    refine WC.ret ?_
    obtain rfl := Option.some.inj h
    refine KB.ret (vs := [(.bool (decide ((Sl.len a0) ≤ 6)))]) (res_tmp rfl res_nil) ?_
    exact rfl
-- 37 prefect/prefectref10.Own
/-- prefect/prefectref10.Own -/
def F37 (k : Nat) (a0 : Sl Api_CSN) : Option (Sl Api_CSN) :=
  Option.bind (F23 k a0) fun y1 =>
  if !y1 then
  some none
  else
  Option.bind (Sl.app? 24 none (Sl.l a0)) fun z3 =>
  some z3
theorem s37 : ∀ k : Nat, ∀ {a0 : Sl Api_CSN} {r : (Sl Api_CSN)}, F37 k a0 = some r → ∀ {vs : List PV}, vs.map PV.strip = [(encSl e_Api_CSN a0)] → ∀ S : List SObj, evw env 37 vs S = some ((encSl e_Api_CSN r), S, false) := by
  intro k a0 r h vs ha S
  unfold F37 at h
  refine evw_pureW (pf := fn37) rfl rfl ha (Nat.le_of_ble_eq_true rfl) (by simp [PV.clean, cleanL, clean_encSl clean_Api_CSN]) (by simp [PV.clean, cleanL, clean_encSl clean_Api_CSN]) ?_
  refine WB.of (pf := fn37) rfl ?_
  have H := Hp.start []
  refine WC.seqR ?_
  refine WO.step (v := .nils) rfl rfl ?_
  refine WO.nil ?_
  refine WC.seq ?_
  refine WC.seqR ?_
  refine WO.step (v := (encSl e_Api_CSN a0)) rfl rfl ?_
  obtain ⟨y1, hy1, h⟩ := bindS h
  refine WO.step (v := (.bool y1)) rfl (stp_call (vs := [(encSl e_Api_CSN a0)]) rfl rfl (s23 _ hy1 (by simp only [strip_enc, List.map_cons, List.map_nil, tupled]) _)) ?_
  refine WO.step (v := (.bool (!y1))) rfl rfl ?_
  refine WO.nil ?_
  rcases iteS h with ⟨hc5, h⟩ | ⟨hc5, h⟩
  · refine WC.condT rfl hc5 ?_
    refine WC.seqR ?_
    refine WO.step (v := .nils) rfl rfl ?_
    refine WO.nil ?_
    refine WC.ret ?_
    refine KX.seq_r ?_
    obtain rfl := Option.some.inj h
    refine KB.ret (vs := [.nils]) (res_tmp rfl res_nil) ?_
    exact (by simp only [st_tup, List.map_cons, List.map_nil, tupled, st_nils, encSl_none])
  · refine WC.condF rfl hc5 ?_
    refine WC.skip ?_
    refine KX.seq_n ?_
    refine WC.seqR ?_
    refine WO.step (v := (encSl e_Api_CSN a0)) rfl rfl ?_
    obtain ⟨z3, hz3, h⟩ := bindS h
    have H := H.addNil 3
    refine WO.ex rfl (stp_app (f := e_Api_CSN) (ei := ty50) H 0 rfl rfl (isSl_nil _) rfl (isSl_enc _ _) rfl rfl rfl rfl (fun a => (e_Api_CSN_one a).2.1) hz3) ?_
    rintro v4 S ⟨hv4, H⟩
    replace H : Hp [] [] _ [] [(v4, 3)] := H
    refine WO.step (v := v4) rfl rfl ?_
    refine WO.nil ?_
    refine WC.ret ?_
    obtain rfl := Option.some.inj h
    refine KB.ret (vs := [v4]) (res_tmp rfl res_nil) ?_
    exact (by simp only [st_tup, List.map_cons, List.map_nil, tupled, hv4.strip])
-- 51 prefect/prefectref10.Cmp
/-- prefect/prefectref10.Cmp -/
def F51 (k : Nat) (a0 : Api_CSN) (a1 : Api_CSN) : Option Int :=
  if (decide (a0.Time < a1.Time)) || ((a0.Time == a1.Time) && ((decide (a0.Seq < a1.Seq)) || ((a0.Seq == a1.Seq) && (decide (a0.Rep < a1.Rep))))) then
  some (-1)
  else
  if (a0.Time == a1.Time) && ((a0.Seq == a1.Seq) && ((a0.Rep == a1.Rep) && true)) then
  some 0
  else
  some 1
theorem s51 : ∀ k : Nat, ∀ {a0 : Api_CSN} {a1 : Api_CSN} {r : Int}, F51 k a0 a1 = some r → ∀ {vs : List PV}, vs.map PV.strip = [(.agg [(.int .i64 a0.Time), (.int .i64 a0.Seq), (.int .i64 a0.Rep)]), (.agg [(.int .i64 a1.Time), (.int .i64 a1.Seq), (.int .i64 a1.Rep)])] → ∀ S : List SObj, evw env 51 vs S = some ((.int .i64 r), S, false) := by
  intro k a0 a1 r h vs ha S
  unfold F51 at h
  refine evw_pureW (pf := fn51) rfl rfl ha (Nat.le_of_ble_eq_true rfl) rfl rfl ?_
  refine WB.of (pf := fn51) rfl ?_
  have H := Hp.start []
  refine WC.seqR ?_
  refine WO.box' rfl rfl rfl rfl H ?_
  intro i1 S hi1 H
  refine WO.box' rfl rfl rfl rfl H ?_
  intro i2 S hi2 H
  refine WO.step (v := (.int .i64 0)) rfl rfl ?_
  refine WO.nil ?_
  refine WC.seq ?_
  refine WC.block ?_
  refine WC.seqR ?_
  refine WO.step (v := (.ptr i1 0)) rfl rfl ?_
  refine WO.step (v := (.int .i64 a0.Time)) rfl (stp_load rfl (H.get 1 rfl) rfl) ?_
  refine WO.step (v := (.ptr i2 0)) rfl rfl ?_
  refine WO.step (v := (.int .i64 a1.Time)) rfl (stp_load rfl (H.get 0 rfl) rfl) ?_
  refine WO.step (v := (.bool (decide (a0.Time < a1.Time)))) rfl rfl ?_
  refine WO.step (v := (.bool (decide (a0.Time < a1.Time)))) rfl rfl ?_
  refine WO.split 27 (fun σ' S' e' => Known ([(2, (.ptr i1 0)), (3, (.ptr i2 0)), (38, (.bool ((decide (a0.Time < a1.Time)) || ((a0.Time == a1.Time) && ((decide (a0.Seq < a1.Seq)) || ((a0.Seq == a1.Seq) && (decide (a0.Rep < a1.Rep))))))))]) σ' ∧ Hp [] [] S' [(i2, [(.int .i64 a1.Time), (.int .i64 a1.Seq), (.int .i64 a1.Rep)]), (i1, [(.int .i64 a0.Time), (.int .i64 a0.Seq), (.int .i64 a0.Rep)])] [] ∧ e' = false) ?_ ?_
  · cases hc75 : (decide (a0.Time < a1.Time))
    · skip
      refine WO.go0 rfl rfl ?_
      refine WO.step (v := (.ptr i1 0)) rfl rfl ?_
      refine WO.go0 rfl rfl ?_
      refine WO.step (v := (.int .i64 a0.Time)) rfl (stp_load rfl (H.get 1 rfl) rfl) ?_
      refine WO.go0 rfl rfl ?_
      refine WO.step (v := (.ptr i2 0)) rfl rfl ?_
      refine WO.go0 rfl rfl ?_
      refine WO.step (v := (.int .i64 a1.Time)) rfl (stp_load rfl (H.get 0 rfl) rfl) ?_
      refine WO.go0 rfl rfl ?_
      refine WO.step (v := (.bool (a0.Time == a1.Time))) rfl rfl ?_
      refine WO.go0 rfl rfl ?_
      refine WO.step (v := (.bool (a0.Time == a1.Time))) rfl rfl ?_
      refine WO.split 20 (fun σ' S' e' => Known ([(2, (.ptr i1 0)), (3, (.ptr i2 0)), (11, (.bool false)), (37, (.bool ((a0.Time == a1.Time) && ((decide (a0.Seq < a1.Seq)) || ((a0.Seq == a1.Seq) && (decide (a0.Rep < a1.Rep)))))))]) σ' ∧ Hp [] [] S' [(i2, [(.int .i64 a1.Time), (.int .i64 a1.Seq), (.int .i64 a1.Rep)]), (i1, [(.int .i64 a0.Time), (.int .i64 a0.Seq), (.int .i64 a0.Rep)])] [] ∧ e' = false) ?_ ?_
      · cases hc84 : (a0.Time == a1.Time)
        · skip
          refine WO.by rfl rfl rfl ?_
          refine WO.by rfl rfl rfl ?_
          refine WO.by rfl rfl rfl ?_
          refine WO.by rfl rfl rfl ?_
          refine WO.by rfl rfl rfl ?_
          refine WO.by rfl rfl rfl ?_
          refine WO.by0 rfl rfl ?_
          refine WO.by0 rfl rfl ?_
          refine WO.by0 rfl rfl ?_
          refine WO.by0 rfl rfl ?_
          refine WO.by0 rfl rfl ?_
          refine WO.by0 rfl rfl ?_
          refine WO.by0 rfl rfl ?_
          refine WO.by0 rfl rfl ?_
          refine WO.by0 rfl rfl ?_
          refine WO.by0 rfl rfl ?_
          refine WO.by0 rfl rfl ?_
          refine WO.by0 rfl rfl ?_
          refine WO.by rfl rfl rfl ?_
          refine WO.go0 rfl rfl ?_
          refine WO.step (v := (.bool false)) rfl rfl ?_
          refine WO.nil ?_
          exact ⟨(known_cons rfl (known_cons rfl (known_cons rfl (known_cons rfl known_nil)))), H, rfl⟩
        · skip
          refine WO.go0 rfl rfl ?_
          refine WO.step (v := (.ptr i1 1)) rfl rfl ?_
          refine WO.go0 rfl rfl ?_
          refine WO.step (v := (.int .i64 a0.Seq)) rfl (stp_load rfl (H.get 1 rfl) rfl) ?_
          refine WO.go0 rfl rfl ?_
          refine WO.step (v := (.ptr i2 1)) rfl rfl ?_
          refine WO.go0 rfl rfl ?_
          refine WO.step (v := (.int .i64 a1.Seq)) rfl (stp_load rfl (H.get 0 rfl) rfl) ?_
          refine WO.go0 rfl rfl ?_
          refine WO.step (v := (.bool (decide (a0.Seq < a1.Seq)))) rfl rfl ?_
          refine WO.go0 rfl rfl ?_
          refine WO.step (v := (.bool (decide (a0.Seq < a1.Seq)))) rfl rfl ?_
          refine WO.split 13 (fun σ' S' e' => Known ([(2, (.ptr i1 0)), (3, (.ptr i2 0)), (11, (.bool false)), (17, (.bool true)), (36, (.bool ((decide (a0.Seq < a1.Seq)) || ((a0.Seq == a1.Seq) && (decide (a0.Rep < a1.Rep))))))]) σ' ∧ Hp [] [] S' [(i2, [(.int .i64 a1.Time), (.int .i64 a1.Seq), (.int .i64 a1.Rep)]), (i1, [(.int .i64 a0.Time), (.int .i64 a0.Seq), (.int .i64 a0.Rep)])] [] ∧ e' = false) ?_ ?_
          · cases hc87 : (decide (a0.Seq < a1.Seq))
            · skip
              refine WO.go0 rfl rfl ?_
              refine WO.step (v := (.ptr i1 1)) rfl rfl ?_
              refine WO.go0 rfl rfl ?_
              refine WO.step (v := (.int .i64 a0.Seq)) rfl (stp_load rfl (H.get 1 rfl) rfl) ?_
              refine WO.go0 rfl rfl ?_
              refine WO.step (v := (.ptr i2 1)) rfl rfl ?_
              refine WO.go0 rfl rfl ?_
              refine WO.step (v := (.int .i64 a1.Seq)) rfl (stp_load rfl (H.get 0 rfl) rfl) ?_
              refine WO.go0 rfl rfl ?_
              refine WO.step (v := (.bool (a0.Seq == a1.Seq))) rfl rfl ?_
              refine WO.go0 rfl rfl ?_
              refine WO.step (v := (.bool (a0.Seq == a1.Seq))) rfl rfl ?_
              refine WO.split 6 (fun σ' S' e' => Known ([(2, (.ptr i1 0)), (3, (.ptr i2 0)), (11, (.bool false)), (17, (.bool true)), (23, (.bool false)), (35, (.bool ((a0.Seq == a1.Seq) && (decide (a0.Rep < a1.Rep)))))]) σ' ∧ Hp [] [] S' [(i2, [(.int .i64 a1.Time), (.int .i64 a1.Seq), (.int .i64 a1.Rep)]), (i1, [(.int .i64 a0.Time), (.int .i64 a0.Seq), (.int .i64 a0.Rep)])] [] ∧ e' = false) ?_ ?_
              · cases hc88 : (a0.Seq == a1.Seq)
                · skip
                  refine WO.by rfl rfl rfl ?_
                  refine WO.by rfl rfl rfl ?_
                  refine WO.by rfl rfl rfl ?_
                  refine WO.by rfl rfl rfl ?_
                  refine WO.by rfl rfl rfl ?_
                  refine WO.go0 rfl rfl ?_
                  refine WO.step (v := (.bool false)) rfl rfl ?_
                  refine WO.nil ?_
                  exact ⟨(known_cons rfl (known_cons rfl (known_cons rfl (known_cons rfl (known_cons rfl (known_cons rfl known_nil)))))), H, rfl⟩
                · skip
                  refine WO.go0 rfl rfl ?_
                  refine WO.step (v := (.ptr i1 2)) rfl rfl ?_
                  refine WO.go0 rfl rfl ?_
                  refine WO.step (v := (.int .i64 a0.Rep)) rfl (stp_load rfl (H.get 1 rfl) rfl) ?_
                  refine WO.go0 rfl rfl ?_
                  refine WO.step (v := (.ptr i2 2)) rfl rfl ?_
                  refine WO.go0 rfl rfl ?_
                  refine WO.step (v := (.int .i64 a1.Rep)) rfl (stp_load rfl (H.get 0 rfl) rfl) ?_
                  refine WO.go0 rfl rfl ?_
                  refine WO.step (v := (.bool (decide (a0.Rep < a1.Rep)))) rfl rfl ?_
                  refine WO.go0 rfl rfl ?_
                  refine WO.step (v := (.bool (decide (a0.Rep < a1.Rep)))) rfl rfl ?_
                  refine WO.nil ?_
                  exact ⟨(known_cons rfl (known_cons rfl (known_cons rfl (known_cons rfl (known_cons rfl (known_cons rfl known_nil)))))), H, rfl⟩
              · rintro σ S e ⟨hk, H, rfl⟩
                refine WO.of_known hk ?_
                refine WO.go0 rfl rfl ?_
                refine WO.step (v := (.bool ((a0.Seq == a1.Seq) && (decide (a0.Rep < a1.Rep))))) rfl rfl ?_
                refine WO.nil ?_
                exact ⟨(known_cons rfl (known_cons rfl (known_cons rfl (known_cons rfl (known_cons rfl known_nil))))), H, rfl⟩
            · skip
              refine WO.by rfl rfl rfl ?_
              refine WO.by rfl rfl rfl ?_
              refine WO.by rfl rfl rfl ?_
              refine WO.by rfl rfl rfl ?_
              refine WO.by rfl rfl rfl ?_
              refine WO.by rfl rfl rfl ?_
              refine WO.by0 rfl rfl ?_
              refine WO.by0 rfl rfl ?_
              refine WO.by0 rfl rfl ?_
              refine WO.by0 rfl rfl ?_
              refine WO.by0 rfl rfl ?_
              refine WO.by rfl rfl rfl ?_
              refine WO.go0 rfl rfl ?_
              refine WO.step (v := (.bool true)) rfl rfl ?_
              refine WO.nil ?_
              exact ⟨(known_cons rfl (known_cons rfl (known_cons rfl (known_cons rfl (known_cons rfl known_nil))))), H, rfl⟩
          · rintro σ S e ⟨hk, H, rfl⟩
            refine WO.of_known hk ?_
            refine WO.go0 rfl rfl ?_
            refine WO.step (v := (.bool ((decide (a0.Seq < a1.Seq)) || ((a0.Seq == a1.Seq) && (decide (a0.Rep < a1.Rep)))))) rfl rfl ?_
            refine WO.nil ?_
            exact ⟨(known_cons rfl (known_cons rfl (known_cons rfl (known_cons rfl known_nil)))), H, rfl⟩
      · rintro σ S e ⟨hk, H, rfl⟩
        refine WO.of_known hk ?_
        refine WO.step (v := (.bool ((a0.Time == a1.Time) && ((decide (a0.Seq < a1.Seq)) || ((a0.Seq == a1.Seq) && (decide (a0.Rep < a1.Rep))))))) rfl rfl ?_
        refine WO.nil ?_
        exact ⟨(known_cons rfl (known_cons rfl (known_cons rfl known_nil))), H, rfl⟩
    · skip
      refine WO.by rfl rfl rfl ?_
      refine WO.by rfl rfl rfl ?_
      refine WO.by rfl rfl rfl ?_
      refine WO.by rfl rfl rfl ?_
      refine WO.by rfl rfl rfl ?_
      refine WO.by rfl rfl rfl ?_
      refine WO.by0 rfl rfl ?_
      refine WO.by0 rfl rfl ?_
      refine WO.by0 rfl rfl ?_
      refine WO.by0 rfl rfl ?_
      refine WO.by0 rfl rfl ?_
      refine WO.by0 rfl rfl ?_
      refine WO.by0 rfl rfl ?_
      refine WO.by0 rfl rfl ?_
      refine WO.by0 rfl rfl ?_
      refine WO.by0 rfl rfl ?_
      refine WO.by0 rfl rfl ?_
      refine WO.by0 rfl rfl ?_
      refine WO.by0 rfl rfl ?_
      refine WO.by0 rfl rfl ?_
      refine WO.by0 rfl rfl ?_
      refine WO.by0 rfl rfl ?_
      refine WO.by0 rfl rfl ?_
      refine WO.by0 rfl rfl ?_
      refine WO.by0 rfl rfl ?_
      refine WO.by rfl rfl rfl ?_
      refine WO.step (v := (.bool true)) rfl rfl ?_
      refine WO.nil ?_
      exact ⟨(known_cons rfl (known_cons rfl (known_cons rfl known_nil))), H, rfl⟩
  · rintro σ S e ⟨hk, H, rfl⟩
    refine WO.of_known hk ?_
    refine WO.step (v := (.bool ((decide (a0.Time < a1.Time)) || ((a0.Time == a1.Time) && ((decide (a0.Seq < a1.Seq)) || ((a0.Seq == a1.Seq) && (decide (a0.Rep < a1.Rep)))))))) rfl rfl ?_
    refine WO.nil ?_
    rcases iteS h with ⟨hc94, h⟩ | ⟨hc94, h⟩
    · refine WC.condT rfl hc94 ?_
      refine WC.seqR ?_
      refine WO.step (v := (.int .i64 (-1))) rfl rfl ?_
      refine WO.nil ?_
      refine WC.ret ?_
      refine KX.block_r ?_
      refine KX.seq_r ?_
      obtain rfl := Option.some.inj h
      refine KB.ret (vs := [(.int .i64 (-1))]) (res_tmp rfl res_nil) ?_
      exact rfl
    · refine WC.condF rfl hc94 ?_
      refine WC.seqR ?_
      refine WO.step (v := (.agg [(.int .i64 a0.Time), (.int .i64 a0.Seq), (.int .i64 a0.Rep)])) rfl (stp_load rfl (H.get 1 rfl) rfl) ?_
      refine WO.step (v := (.agg [(.int .i64 a1.Time), (.int .i64 a1.Seq), (.int .i64 a1.Rep)])) rfl (stp_load rfl (H.get 0 rfl) rfl) ?_
      refine WO.step (v := (.bool ((a0.Time == a1.Time) && ((a0.Seq == a1.Seq) && ((a0.Rep == a1.Rep) && true))))) rfl (stp_eq rfl rfl rfl rfl rfl) ?_
      refine WO.step (v := (.bool ((a0.Time == a1.Time) && ((a0.Seq == a1.Seq) && ((a0.Rep == a1.Rep) && true))))) rfl rfl ?_
      refine WO.nil ?_
      rcases iteS h with ⟨hc93, h⟩ | ⟨hc93, h⟩
      · refine WC.condT rfl hc93 ?_
        refine WC.seqR ?_
        refine WO.step (v := (.int .i64 0)) rfl rfl ?_
        refine WO.nil ?_
        refine WC.ret ?_
        refine KX.block_r ?_
        refine KX.seq_r ?_
        obtain rfl := Option.some.inj h
        refine KB.ret (vs := [(.int .i64 0)]) (res_tmp rfl res_nil) ?_
        exact rfl
      · refine WC.condF rfl hc93 ?_
        refine WC.skip ?_
        refine KX.block_n ?_
        refine KX.seq_n ?_
        refine WC.seqR ?_
        refine WO.step (v := (.int .i64 1)) rfl rfl ?_
        refine WO.nil ?_
        refine WC.ret ?_
        obtain rfl := Option.some.inj h
        refine KB.ret (vs := [(.int .i64 1)]) (res_tmp rfl res_nil) ?_
        exact rfl
-- 49 prefect/prefectref10.Greater
/-- prefect/prefectref10.Greater -/
def F49 (k : Nat) (a0 : Api_CSN) (a1 : Api_CSN) : Option Api_CSN :=
  Option.bind (F51 k a0 a1) fun y4 =>
  if decide (y4 ≥ 0) then
  some a0
  else
  some a1
theorem s49 : ∀ k : Nat, ∀ {a0 : Api_CSN} {a1 : Api_CSN} {r : Api_CSN}, F49 k a0 a1 = some r → ∀ {vs : List PV}, vs.map PV.strip = [(.agg [(.int .i64 a0.Time), (.int .i64 a0.Seq), (.int .i64 a0.Rep)]), (.agg [(.int .i64 a1.Time), (.int .i64 a1.Seq), (.int .i64 a1.Rep)])] → ∀ S : List SObj, evw env 49 vs S = some ((.agg [(.int .i64 r.Time), (.int .i64 r.Seq), (.int .i64 r.Rep)]), S, false) := by
  intro k a0 a1 r h vs ha S
  unfold F49 at h
  refine evw_pureW (pf := fn49) rfl rfl ha (Nat.le_of_ble_eq_true rfl) rfl rfl ?_
  refine WB.of (pf := fn49) rfl ?_
  have H := Hp.start []
  refine WC.seqR ?_
  refine WO.box' rfl rfl rfl rfl H ?_
  intro i1 S hi1 H
  refine WO.box' rfl rfl rfl rfl H ?_
  intro i2 S hi2 H
  refine WO.alloc' (ti := ty50) rfl rfl rfl rfl H ?_
  intro i3 S hi3 H
  refine WO.nil ?_
  refine WC.seq ?_
  refine WC.seqR ?_
  refine WO.step (v := (.agg [(.int .i64 a0.Time), (.int .i64 a0.Seq), (.int .i64 a0.Rep)])) rfl (stp_load rfl (H.get 2 rfl) rfl) ?_
  refine WO.step (v := (.agg [(.int .i64 a1.Time), (.int .i64 a1.Seq), (.int .i64 a1.Rep)])) rfl (stp_load rfl (H.get 1 rfl) rfl) ?_
  obtain ⟨y4, hy4, h⟩ := bindS h
  refine WO.step (v := (.int .i64 y4)) rfl (stp_call (vs := [(.agg [(.int .i64 a0.Time), (.int .i64 a0.Seq), (.int .i64 a0.Rep)]), (.agg [(.int .i64 a1.Time), (.int .i64 a1.Seq), (.int .i64 a1.Rep)])]) rfl rfl (s51 _ hy4 rfl _)) ?_
  refine WO.step (v := (.bool (decide (y4 ≥ 0)))) rfl rfl ?_
  refine WO.nil ?_
  rcases iteS h with ⟨hc6, h⟩ | ⟨hc6, h⟩
  · refine WC.condT rfl hc6 ?_
    refine WC.seqR ?_
    refine WO.step (v := (.agg [(.int .i64 a0.Time), (.int .i64 a0.Seq), (.int .i64 a0.Rep)])) rfl (stp_load rfl (H.get 2 rfl) rfl) ?_
    refine WO.store 0 rfl H rfl rfl rfl rfl rfl rfl rfl (Nat.le_of_ble_eq_true rfl) rfl (own_e hi3) ?_
    intro S H
    replace H : Hp [] [] _ [(i3, [(.int .i64 a0.Time), (.int .i64 a0.Seq), (.int .i64 a0.Rep)]), (i2, [(.int .i64 a1.Time), (.int .i64 a1.Seq), (.int .i64 a1.Rep)]), (i1, [(.int .i64 a0.Time), (.int .i64 a0.Seq), (.int .i64 a0.Rep)])] [] := H
    refine WO.nil ?_
    refine WC.ret ?_
    refine KX.seq_r ?_
    obtain rfl := Option.some.inj h
    refine KB.ret (vs := [(.agg [(.int .i64 a0.Time), (.int .i64 a0.Seq), (.int .i64 a0.Rep)])]) (res_cell rfl (H.get 0 rfl) rfl res_nil) ?_
    exact rfl
  · refine WC.condF rfl hc6 ?_
    refine WC.skip ?_
    refine KX.seq_n ?_
    refine WC.seqR ?_
    refine WO.step (v := (.agg [(.int .i64 a1.Time), (.int .i64 a1.Seq), (.int .i64 a1.Rep)])) rfl (stp_load rfl (H.get 1 rfl) rfl) ?_
    refine WO.store 0 rfl H rfl rfl rfl rfl rfl rfl rfl (Nat.le_of_ble_eq_true rfl) rfl (own_e hi3) ?_
    intro S H
    replace H : Hp [] [] _ [(i3, [(.int .i64 a1.Time), (.int .i64 a1.Seq), (.int .i64 a1.Rep)]), (i2, [(.int .i64 a1.Time), (.int .i64 a1.Seq), (.int .i64 a1.Rep)]), (i1, [(.int .i64 a0.Time), (.int .i64 a0.Seq), (.int .i64 a0.Rep)])] [] := H
    refine WO.nil ?_
    refine WC.ret ?_
    obtain rfl := Option.some.inj h
    refine KB.ret (vs := [(.agg [(.int .i64 a1.Time), (.int .i64 a1.Seq), (.int .i64 a1.Rep)])]) (res_cell rfl (H.get 0 rfl) rfl res_nil) ?_
    exact rfl
-- 29 prefect/prefectref10.Meet
def F29_L0 (k : Nat) (a153 : Sl Api_CSN) (a154 : Sl Api_CSN) : Nat → (Sl Api_CSN) → Int → Option ((Sl Api_CSN) × Int)
  | 0, _, _ => none
  | n + 1, x155, x157 =>
    if decide (x157 < (imin (Sl.len a153) (Sl.len a154))) then
    Option.bind (Sl.at? a153 x157) fun y191 =>
    Option.bind (Sl.at? a154 x157) fun y192 =>
    Option.bind (F51 k y191 y192) fun y193 =>
    Option.bind (if decide (y193 ≤ 0) then
    Option.bind (Sl.at? a153 x157) fun y214 =>
    Option.bind (Sl.app? 24 x155 (Sl.l (some [y214]))) fun z216 =>
    some z216
    else
    Option.bind (Sl.at? a154 x157) fun y218 =>
    Option.bind (Sl.app? 24 x155 (Sl.l (some [y218]))) fun z220 =>
    some z220) fun y212 =>
    F29_L0 k a153 a154 n y212 (ad .i64 x157 1)
    else
    some (x155, x157)
/-- prefect/prefectref10.Meet -/
def F29 (k : Nat) (a0 : Sl Api_CSN) (a1 : Sl Api_CSN) : Option (Sl Api_CSN) :=
  Option.bind (F37 k a0) fun y1 =>
  Option.bind (F37 k a1) fun y2 =>
  Option.bind (F29_L0 k y1 y2 k none 0) fun y225 =>
  some y225.1
theorem l29_L0 {k : Nat} {a153 : Sl Api_CSN} {a154 : Sl Api_CSN} {S0 : List SObj} {R : List Nat} {K : KX}  {o : ((Sl Api_CSN) × Int)}
    (hbrk : ∀ {σ' : Nat → PV} {S' : List SObj}, ∀ (v224 : PV) (_ : IsSl e_Api_CSN o.1 v224), Known [(7, v224), (8, (.int .i64 o.2))] σ' → Hp S0 R S' [] [(v224, 3)] → K (.exit 0) σ' S' false) :
    ∀ {n : Nat} {x155 : Sl Api_CSN} {x157 : Int}, F29_L0 k a153 a154 n x155 x157 = some o → ∀ {σ : Nat → PV} {S : List SObj}, ∀ (v156 : PV) (_ : IsSl e_Api_CSN x155 v156), Known [(5, (encSl e_Api_CSN a153)), (6, (encSl e_Api_CSN a154)), (7, v156), (8, (.int .i64 x157))] σ → Hp S0 R S [] [(v156, 3)] → WC env ⟨47, S0.length⟩ (.loop pc29L0) σ S false K := by
  intro n
  induction n with
  | zero => intro _ _ h; cases h
  | succ n ih =>
    intro x155 x157 h σ S v156 hv156 hk H
    rw [F29_L0] at h
    refine WC.loop ?_
    refine WC.of_known hk ?_
    refine WC.seq ?_
    refine WC.seqR ?_
    refine WO.step (v := (.int .i64 x157)) rfl rfl ?_
    refine WO.step (v := (encSl e_Api_CSN a153)) rfl rfl ?_
    refine WO.step (v := (.int .i64 (Sl.len a153))) rfl (stp_len rfl (isSl_enc _ _) rfl) ?_
    refine WO.step (v := (encSl e_Api_CSN a154)) rfl rfl ?_
    refine WO.step (v := (.int .i64 (Sl.len a154))) rfl (stp_len rfl (isSl_enc _ _) rfl) ?_
    refine WO.step (v := (.int .i64 (imin (Sl.len a153) (Sl.len a154)))) rfl rfl ?_
    refine WO.step (v := (.bool (decide (x157 < (imin (Sl.len a153) (Sl.len a154)))))) rfl rfl ?_
    refine WO.nil ?_
    rcases iteS h with ⟨hc223, h⟩ | ⟨hc223, h⟩
    · refine WC.condT rfl hc223 ?_
      refine WC.skip ?_
      refine KX.seq_n ?_
      refine WC.seq ?_
      refine WC.block ?_
      refine WC.seq ?_
      refine WC.draw ?_
      refine WH.step (v := (encSl e_Api_CSN a153)) rfl rfl rfl rfl ?_
      refine WH.step (v := (.int .i64 x157)) rfl rfl rfl rfl ?_
      obtain ⟨y191, hy191, h⟩ := bindS h
      refine WH.step (v := (.iptr [(.int .i64 y191.Time), (.int .i64 y191.Seq), (.int .i64 y191.Rep)] 0)) rfl (stp_idxAddr rfl (isSl_enc _ _) rfl rfl rfl hy191 (e_Api_CSN_cells _) rfl) rfl rfl ?_
      refine WH.step (v := (.agg [(.int .i64 y191.Time), (.int .i64 y191.Seq), (.int .i64 y191.Rep)])) rfl rfl rfl rfl ?_
      refine WH.step (v := (encSl e_Api_CSN a154)) rfl rfl rfl rfl ?_
      refine WH.step (v := (.int .i64 x157)) rfl rfl rfl rfl ?_
      obtain ⟨y192, hy192, h⟩ := bindS h
      refine WH.step (v := (.iptr [(.int .i64 y192.Time), (.int .i64 y192.Seq), (.int .i64 y192.Rep)] 0)) rfl (stp_idxAddr rfl (isSl_enc _ _) rfl rfl rfl hy192 (e_Api_CSN_cells _) rfl) rfl rfl ?_
      refine WH.step (v := (.agg [(.int .i64 y192.Time), (.int .i64 y192.Seq), (.int .i64 y192.Rep)])) rfl rfl rfl rfl ?_
      refine WH.nil ?_
      obtain ⟨y193, hy193, h⟩ := bindS h
      refine WO.step (v := (.int .i64 y193)) rfl (stp_call (vs := [(.agg [(.int .i64 y191.Time), (.int .i64 y191.Seq), (.int .i64 y191.Rep)]), (.agg [(.int .i64 y192.Time), (.int .i64 y192.Seq), (.int .i64 y192.Rep)])]) rfl rfl (s51 _ hy193 rfl _)) ?_
      refine WO.step (v := (.bool (decide (y193 ≤ 0)))) rfl rfl ?_
      refine WO.nil ?_
      refine KX.seq_n ?_
      obtain ⟨y212, hy212, hOy212⟩ := bindS h
      refine WC.join (fun σ' S' e' => ∃ v213, IsSl e_Api_CSN y212 v213 ∧ Known ([(5, (encSl e_Api_CSN a153)), (6, (encSl e_Api_CSN a154)), (7, v213), (8, (.int .i64 x157))]) σ' ∧ Hp S0 R S' [] [(v213, 3)] ∧ e' = false) ?_ ?_
      · replace h := hy212
        rcases iteS h with ⟨hc222, h⟩ | ⟨hc222, h⟩
        · refine WC.condT rfl hc222 ?_
          refine WC.region ?_
          refine WO.step (v := v156) rfl rfl ?_
          refine WO.step (v := (encSl e_Api_CSN a153)) rfl rfl ?_
          refine WO.step (v := (.int .i64 x157)) rfl rfl ?_
          obtain ⟨y214, hy214, h⟩ := bindS h
          refine WO.step (v := (.iptr [(.int .i64 y214.Time), (.int .i64 y214.Seq), (.int .i64 y214.Rep)] 0)) rfl (stp_idxAddr rfl (isSl_enc _ _) rfl rfl rfl hy214 (e_Api_CSN_cells _) rfl) ?_
          refine WO.step (v := (.agg [(.int .i64 y214.Time), (.int .i64 y214.Seq), (.int .i64 y214.Rep)])) rfl rfl ?_
          refine WO.step rfl (stp_buildSlice (ys := [y214]) (f := e_Api_CSN) (parts := [(0, (.agg [(.int .i64 y214.Time), (.int .i64 y214.Seq), (.int .i64 y214.Rep)]))]) rfl rfl rfl rfl rfl rfl (fc ⟨rfl, rfl⟩ (fun p hp => nomatch hp)) rfl) ?_
          have hv215 : IsSl e_Api_CSN (some [y214]) _ := ⟨.full, rfl⟩
          obtain ⟨z216, hz216, h⟩ := bindS h
          refine WO.ex rfl (stp_app (f := e_Api_CSN) (ei := ty50) H 0 rfl rfl hv156 rfl hv215 rfl rfl rfl rfl (fun a => (e_Api_CSN_one a).2.1) hz216) ?_
          rintro v217 S ⟨hv217, H⟩
          replace H : Hp S0 R _ [] [(v217, 3)] := H
          refine WO.step (v := v217) rfl rfl ?_
          refine WO.nil ?_
          refine KX.seq_n ?_
          obtain rfl := Option.some.inj h
          exact ⟨v217, hv217, (known_cons rfl (known_cons rfl (known_cons rfl (known_cons rfl known_nil)))), (H.sub .slnil (.cons_cons _ .slnil)), rfl⟩
        · refine WC.condF rfl hc222 ?_
          refine WC.region ?_
          refine WO.step (v := v156) rfl rfl ?_
          refine WO.step (v := (encSl e_Api_CSN a154)) rfl rfl ?_
          refine WO.step (v := (.int .i64 x157)) rfl rfl ?_
          obtain ⟨y218, hy218, h⟩ := bindS h
          refine WO.step (v := (.iptr [(.int .i64 y218.Time), (.int .i64 y218.Seq), (.int .i64 y218.Rep)] 0)) rfl (stp_idxAddr rfl (isSl_enc _ _) rfl rfl rfl hy218 (e_Api_CSN_cells _) rfl) ?_
          refine WO.step (v := (.agg [(.int .i64 y218.Time), (.int .i64 y218.Seq), (.int .i64 y218.Rep)])) rfl rfl ?_
          refine WO.step rfl (stp_buildSlice (ys := [y218]) (f := e_Api_CSN) (parts := [(0, (.agg [(.int .i64 y218.Time), (.int .i64 y218.Seq), (.int .i64 y218.Rep)]))]) rfl rfl rfl rfl rfl rfl (fc ⟨rfl, rfl⟩ (fun p hp => nomatch hp)) rfl) ?_
          have hv219 : IsSl e_Api_CSN (some [y218]) _ := ⟨.full, rfl⟩
          obtain ⟨z220, hz220, h⟩ := bindS h
          refine WO.ex rfl (stp_app (f := e_Api_CSN) (ei := ty50) H 0 rfl rfl hv156 rfl hv219 rfl rfl rfl rfl (fun a => (e_Api_CSN_one a).2.1) hz220) ?_
          rintro v221 S ⟨hv221, H⟩
          replace H : Hp S0 R _ [] [(v221, 3)] := H
          refine WO.step (v := v221) rfl rfl ?_
          refine WO.nil ?_
          refine KX.seq_n ?_
          obtain rfl := Option.some.inj h
          exact ⟨v221, hv221, (known_cons rfl (known_cons rfl (known_cons rfl (known_cons rfl known_nil)))), (H.sub .slnil (.cons_cons _ .slnil)), rfl⟩
      · rintro σ S e ⟨v213, hv213, hk, H, rfl⟩
        replace h := hOy212
        refine KX.of_known hk ?_
        refine KX.block_n ?_
        refine KX.seq_n ?_
        refine WC.region ?_
        refine WO.step (v := (.int .i64 x157)) rfl rfl ?_
        refine WO.step (v := (.int .i64 (ad .i64 x157 1))) rfl rfl ?_
        refine WO.step (v := (.int .i64 (ad .i64 x157 1))) rfl rfl ?_
        refine WO.nil ?_
        refine KX.seq_n ?_
        exact ih h v213 (hv213) (known_cons rfl (known_cons rfl (known_cons rfl (known_cons rfl known_nil)))) (H.sub .slnil (.cons_cons _ .slnil))
    · refine WC.condF rfl hc223 ?_
      refine WC.exit ?_
      refine KX.seq_x ?_
      refine KX.seq_x ?_
      obtain rfl := Option.some.inj h
      exact hbrk v156 (hv156) (known_cons rfl (known_cons rfl known_nil)) (H.sub .slnil (.cons_cons _ .slnil))
theorem s29 : ∀ k : Nat, ∀ {a0 : Sl Api_CSN} {a1 : Sl Api_CSN} {r : (Sl Api_CSN)}, F29 k a0 a1 = some r → ∀ {vs : List PV}, vs.map PV.strip = [(encSl e_Api_CSN a0), (encSl e_Api_CSN a1)] → ∀ S : List SObj, evw env 29 vs S = some ((encSl e_Api_CSN r), S, false) := by
  intro k a0 a1 r h vs ha S
  unfold F29 at h
  refine evw_pureW (pf := fn29) rfl rfl ha (Nat.le_of_ble_eq_true rfl) (by simp [PV.clean, cleanL, clean_encSl clean_Api_CSN]) (by simp [PV.clean, cleanL, clean_encSl clean_Api_CSN]) ?_
  refine WB.of (pf := fn29) rfl ?_
  have H := Hp.start []
  refine WC.seqR ?_
  refine WO.step (v := .nils) rfl rfl ?_
  refine WO.nil ?_
  refine WC.seqR ?_
  refine WO.step (v := (encSl e_Api_CSN a0)) rfl rfl ?_
  obtain ⟨y1, hy1, h⟩ := bindS h
  refine WO.step (v := (encSl e_Api_CSN y1)) rfl (stp_call (vs := [(encSl e_Api_CSN a0)]) rfl rfl (s37 _ hy1 (by simp only [strip_enc, List.map_cons, List.map_nil, tupled]) _)) ?_
  refine WO.step (v := (encSl e_Api_CSN a1)) rfl rfl ?_
  obtain ⟨y2, hy2, h⟩ := bindS h
  refine WO.step (v := (encSl e_Api_CSN y2)) rfl (stp_call (vs := [(encSl e_Api_CSN a1)]) rfl rfl (s37 _ hy2 (by simp only [strip_enc, List.map_cons, List.map_nil, tupled]) _)) ?_
  refine WO.step (v := (encSl e_Api_CSN y1)) rfl rfl ?_
  refine WO.step (v := (encSl e_Api_CSN y2)) rfl rfl ?_
  refine WO.nil ?_
  refine WC.seqR ?_
  refine WO.step (v := .nils) rfl rfl ?_
  refine WO.nil ?_
  refine WC.seq ?_
  refine WC.seqR ?_
  refine WO.step (v := (.int .i64 0)) rfl rfl ?_
  refine WO.nil ?_
  obtain ⟨y225, hy225, hOy225⟩ := bindS h
  refine WC.block ?_
  have H := H.addNil 3
  refine l29_L0 ?_ hy225 .nils ((isSl_nil _)) (known_cons rfl (known_cons rfl (known_cons rfl (known_cons rfl known_nil)))) (H.sub .slnil (.cons_cons _ .slnil))
  · intro σ S v226 hv226 hk H; replace h := hOy225
    refine KX.of_known hk ?_
    refine KX.block_x ?_
    refine KX.seq_n ?_
    refine WC.seqR ?_
    refine WO.step (v := v226) rfl rfl ?_
    refine WO.step (v := v226) rfl rfl ?_
    refine WO.nil ?_
    refine WC.ret ?_
    obtain rfl := Option.some.inj h
    refine KB.ret (vs := [v226]) (res_tmp rfl res_nil) ?_
    exact (by simp only [st_tup, List.map_cons, List.map_nil, tupled, hv226.strip])
-- 31 prefect/prefectref10.Leq
def F31_L0 (k : Nat) (a33 : Sl Api_CSN) (a34 : Sl Api_CSN) : Nat → Int → Option (Out Bool Int)
  | 0, _ => none
  | n + 1, x35 =>
    if decide (x35 < (Sl.len a33)) then
    Option.bind (Sl.at? a33 x35) fun y42 =>
    Option.bind (Sl.at? a34 x35) fun y43 =>
    Option.bind (F51 k y42 y43) fun y44 =>
    if decide (y44 > 0) then
    some (Out.ret false)
    else
    F31_L0 k a33 a34 n (ad .i64 x35 1)
    else
    some (Out.brk x35)
/-- prefect/prefectref10.Leq -/
def F31 (k : Nat) (a0 : Sl Api_CSN) (a1 : Sl Api_CSN) : Option Bool :=
  Option.bind (F37 k a0) fun y1 =>
  Option.bind (F37 k a1) fun y2 =>
  if decide ((Sl.len y1) > (Sl.len y2)) then
  some false
  else
  Option.bind (F31_L0 k y1 y2 k 0) fun y48 =>
  match y48 with
  | .ret y48r => some y48r
  | .brk y48b =>
  some true
theorem l31_L0 {k : Nat} {a33 : Sl Api_CSN} {a34 : Sl Api_CSN} {S0 : List SObj} {R : List Nat} {K : KX}  {o : Out Bool Int}
    (hret : ∀ r : Bool, o = .ret r → ∀ {σ' : Nat → PV} {S' : List SObj}, Known [(4, (.bool r))] σ' → Hp S0 R S' [] [] → K .ret σ' S' false)
    (hbrk : ∀ y : Int, o = .brk y → ∀ {σ' : Nat → PV} {S' : List SObj}, Known [(7, (.int .i64 y))] σ' → Hp S0 R S' [] [] → K (.exit 0) σ' S' false) :
    ∀ {n : Nat} {x35 : Int}, F31_L0 k a33 a34 n x35 = some o → ∀ {σ : Nat → PV} {S : List SObj}, Known [(5, (encSl e_Api_CSN a33)), (6, (encSl e_Api_CSN a34)), (7, (.int .i64 x35))] σ → Hp S0 R S [] [] → WC env ⟨33, S0.length⟩ (.loop pc31L0) σ S false K := by
  intro n
  induction n with
  | zero => intro _ h; cases h
  | succ n ih =>
    intro x35 h σ S  hk H
    rw [F31_L0] at h
    refine WC.loop ?_
    refine WC.of_known hk ?_
    refine WC.seq ?_
    refine WC.seqR ?_
    refine WO.step (v := (.int .i64 x35)) rfl rfl ?_
    refine WO.step (v := (encSl e_Api_CSN a33)) rfl rfl ?_
    refine WO.step (v := (.int .i64 (Sl.len a33))) rfl (stp_len rfl (isSl_enc _ _) rfl) ?_
    refine WO.step (v := (.bool (decide (x35 < (Sl.len a33))))) rfl rfl ?_
    refine WO.nil ?_
    rcases iteS h with ⟨hc47, h⟩ | ⟨hc47, h⟩
    · refine WC.condT rfl hc47 ?_
      refine WC.skip ?_
      refine KX.seq_n ?_
      refine WC.seq ?_
      refine WC.block ?_
      refine WC.seq ?_
      refine WC.draw ?_
      refine WH.step (v := (encSl e_Api_CSN a33)) rfl rfl rfl rfl ?_
      refine WH.step (v := (.int .i64 x35)) rfl rfl rfl rfl ?_
      obtain ⟨y42, hy42, h⟩ := bindS h
      refine WH.step (v := (.iptr [(.int .i64 y42.Time), (.int .i64 y42.Seq), (.int .i64 y42.Rep)] 0)) rfl (stp_idxAddr rfl (isSl_enc _ _) rfl rfl rfl hy42 (e_Api_CSN_cells _) rfl) rfl rfl ?_
      refine WH.step (v := (.agg [(.int .i64 y42.Time), (.int .i64 y42.Seq), (.int .i64 y42.Rep)])) rfl rfl rfl rfl ?_
      refine WH.step (v := (encSl e_Api_CSN a34)) rfl rfl rfl rfl ?_
      refine WH.step (v := (.int .i64 x35)) rfl rfl rfl rfl ?_
      obtain ⟨y43, hy43, h⟩ := bindS h
      refine WH.step (v := (.iptr [(.int .i64 y43.Time), (.int .i64 y43.Seq), (.int .i64 y43.Rep)] 0)) rfl (stp_idxAddr rfl (isSl_enc _ _) rfl rfl rfl hy43 (e_Api_CSN_cells _) rfl) rfl rfl ?_
      refine WH.step (v := (.agg [(.int .i64 y43.Time), (.int .i64 y43.Seq), (.int .i64 y43.Rep)])) rfl rfl rfl rfl ?_
      refine WH.nil ?_
      obtain ⟨y44, hy44, h⟩ := bindS h
      refine WO.step (v := (.int .i64 y44)) rfl (stp_call (vs := [(.agg [(.int .i64 y42.Time), (.int .i64 y42.Seq), (.int .i64 y42.Rep)]), (.agg [(.int .i64 y43.Time), (.int .i64 y43.Seq), (.int .i64 y43.Rep)])]) rfl rfl (s51 _ hy44 rfl _)) ?_
      refine WO.step (v := (.bool (decide (y44 > 0)))) rfl rfl ?_
      refine WO.nil ?_
      refine KX.seq_n ?_
      rcases iteS h with ⟨hc46, h⟩ | ⟨hc46, h⟩
      · refine WC.condT rfl hc46 ?_
        refine WC.seqR ?_
        refine WO.step (v := (.bool false)) rfl rfl ?_
        refine WO.nil ?_
        refine WC.ret ?_
        refine KX.block_r ?_
        refine KX.seq_r ?_
        refine KX.seq_r ?_
        obtain rfl := Option.some.inj h
        exact hret _ rfl (known_cons rfl known_nil) (H.sub .slnil .slnil)
      · refine WC.condF rfl hc46 ?_
        refine WC.skip ?_
        refine KX.block_n ?_
        refine KX.seq_n ?_
        refine WC.region ?_
        refine WO.step (v := (.int .i64 x35)) rfl rfl ?_
        refine WO.step (v := (.int .i64 (ad .i64 x35 1))) rfl rfl ?_
        refine WO.step (v := (.int .i64 (ad .i64 x35 1))) rfl rfl ?_
        refine WO.nil ?_
        refine KX.seq_n ?_
        exact ih h  (known_cons rfl (known_cons rfl (known_cons rfl known_nil))) (H.sub .slnil .slnil)
    · refine WC.condF rfl hc47 ?_
      refine WC.exit ?_
      refine KX.seq_x ?_
      refine KX.seq_x ?_
      obtain rfl := Option.some.inj h
      exact hbrk _ rfl  (known_cons rfl known_nil) (H.sub .slnil .slnil)
theorem s31 : ∀ k : Nat, ∀ {a0 : Sl Api_CSN} {a1 : Sl Api_CSN} {r : Bool}, F31 k a0 a1 = some r → ∀ {vs : List PV}, vs.map PV.strip = [(encSl e_Api_CSN a0), (encSl e_Api_CSN a1)] → ∀ S : List SObj, evw env 31 vs S = some ((.bool r), S, false) := by
  intro k a0 a1 r h vs ha S
  unfold F31 at h
  refine evw_pureW (pf := fn31) rfl rfl ha (Nat.le_of_ble_eq_true rfl) (by simp [PV.clean, cleanL, clean_encSl clean_Api_CSN]) rfl ?_
  refine WB.of (pf := fn31) rfl ?_
  have H := Hp.start []
  refine WC.seqR ?_
  refine WO.step (v := (.bool false)) rfl rfl ?_
  refine WO.nil ?_
  refine WC.seqR ?_
  refine WO.step (v := (encSl e_Api_CSN a0)) rfl rfl ?_
  obtain ⟨y1, hy1, h⟩ := bindS h
  refine WO.step (v := (encSl e_Api_CSN y1)) rfl (stp_call (vs := [(encSl e_Api_CSN a0)]) rfl rfl (s37 _ hy1 (by simp only [strip_enc, List.map_cons, List.map_nil, tupled]) _)) ?_
  refine WO.step (v := (encSl e_Api_CSN a1)) rfl rfl ?_
  obtain ⟨y2, hy2, h⟩ := bindS h
  refine WO.step (v := (encSl e_Api_CSN y2)) rfl (stp_call (vs := [(encSl e_Api_CSN a1)]) rfl rfl (s37 _ hy2 (by simp only [strip_enc, List.map_cons, List.map_nil, tupled]) _)) ?_
  refine WO.step (v := (encSl e_Api_CSN y1)) rfl rfl ?_
  refine WO.step (v := (encSl e_Api_CSN y2)) rfl rfl ?_
  refine WO.nil ?_
  refine WC.seq ?_
  refine WC.seqR ?_
  refine WO.step (v := (encSl e_Api_CSN y1)) rfl rfl ?_
  refine WO.step (v := (.int .i64 (Sl.len y1))) rfl (stp_len rfl (isSl_enc _ _) rfl) ?_
  refine WO.step (v := (encSl e_Api_CSN y2)) rfl rfl ?_
  refine WO.step (v := (.int .i64 (Sl.len y2))) rfl (stp_len rfl (isSl_enc _ _) rfl) ?_
  refine WO.step (v := (.bool (decide ((Sl.len y1) > (Sl.len y2))))) rfl rfl ?_
  refine WO.nil ?_
  rcases iteS h with ⟨hc49, h⟩ | ⟨hc49, h⟩
  · refine WC.condT rfl hc49 ?_
    refine WC.seqR ?_
    refine WO.step (v := (.bool false)) rfl rfl ?_
    refine WO.nil ?_
    refine WC.ret ?_
    refine KX.seq_r ?_
    obtain rfl := Option.some.inj h
    refine KB.ret (vs := [(.bool false)]) (res_tmp rfl res_nil) ?_
    exact rfl
  · refine WC.condF rfl hc49 ?_
    refine WC.skip ?_
    refine KX.seq_n ?_
    refine WC.seq ?_
    refine WC.seqR ?_
    refine WO.step (v := (.int .i64 0)) rfl rfl ?_
    refine WO.nil ?_
    obtain ⟨y48, hy48, hOy48⟩ := bindS h
    refine WC.block ?_
    refine l31_L0 ?_ ?_ hy48  (known_cons rfl (known_cons rfl (known_cons rfl known_nil))) (H.sub .slnil .slnil)
    · intro y48r he σ S  hk H; subst he; replace h := hOy48; dsimp only at h
      refine KX.of_known hk ?_
      refine KX.block_r ?_
      refine KX.seq_r ?_
      obtain rfl := Option.some.inj h
      refine KB.ret (vs := [(.bool y48r)]) (res_tmp rfl res_nil) ?_
      exact rfl
    · intro y48b he σ S  hk H; subst he; replace h := hOy48; dsimp only at h
      refine KX.of_known hk ?_
      refine KX.block_x ?_
      refine KX.seq_n ?_
      refine WC.seqR ?_
      refine WO.step (v := (.bool true)) rfl rfl ?_
      refine WO.nil ?_
      refine WC.ret ?_
      obtain rfl := Option.some.inj h
      refine KB.ret (vs := [(.bool true)]) (res_tmp rfl res_nil) ?_
      exact rfl
-- 33 prefect/prefectref10.Covers
/-- prefect/prefectref10.Covers -/
def F33 (k : Nat) (a0 : Sl Api_CSN) (a1 : Api_CSN) : Option Bool :=
  Option.bind (F37 k a0) fun y2 =>
  Option.bind (if (decide (a1.Rep ≥ 0)) && (decide (a1.Rep < (Sl.len y2))) then
  Option.bind (Sl.at? y2 a1.Rep) fun y8 =>
  Option.bind (F51 k a1 y8) fun y9 =>
  some (decide (y9 ≤ 0))
  else
  some false) fun y7 =>
  some y7
theorem s33 : ∀ k : Nat, ∀ {a0 : Sl Api_CSN} {a1 : Api_CSN} {r : Bool}, F33 k a0 a1 = some r → ∀ {vs : List PV}, vs.map PV.strip = [(encSl e_Api_CSN a0), (.agg [(.int .i64 a1.Time), (.int .i64 a1.Seq), (.int .i64 a1.Rep)])] → ∀ S : List SObj, evw env 33 vs S = some ((.bool r), S, false) := by
  intro k a0 a1 r h vs ha S
  unfold F33 at h
  refine evw_pureW (pf := fn33) rfl rfl ha (Nat.le_of_ble_eq_true rfl) (by simp [PV.clean, cleanL, clean_encSl clean_Api_CSN]) rfl ?_
  refine WB.of (pf := fn33) rfl ?_
  have H := Hp.start []
  refine WC.seqR ?_
  refine WO.box' rfl rfl rfl rfl H ?_
  intro i1 S hi1 H
  refine WO.step (v := (.bool false)) rfl rfl ?_
  refine WO.nil ?_
  refine WC.seqR ?_
  refine WO.step (v := (encSl e_Api_CSN a0)) rfl rfl ?_
  obtain ⟨y2, hy2, h⟩ := bindS h
  refine WO.step (v := (encSl e_Api_CSN y2)) rfl (stp_call (vs := [(encSl e_Api_CSN a0)]) rfl rfl (s37 _ hy2 (by simp only [strip_enc, List.map_cons, List.map_nil, tupled]) _)) ?_
  refine WO.step (v := (encSl e_Api_CSN y2)) rfl rfl ?_
  refine WO.nil ?_
  refine WC.seq ?_
  refine WC.draw ?_
  refine WH.step (v := (.ptr i1 2)) rfl rfl rfl rfl ?_
  refine WH.step (v := (.int .i64 a1.Rep)) rfl (stp_load rfl (H.get 0 rfl) rfl) rfl rfl ?_
  refine WH.step (v := (.bool (decide (a1.Rep ≥ 0)))) rfl rfl rfl rfl ?_
  refine WH.step (v := (.bool (decide (a1.Rep ≥ 0)))) rfl rfl rfl rfl ?_
  refine WH.split 6 (fun σ' => Known ([(3, (.ptr i1 0)), (5, (encSl e_Api_CSN y2)), (17, (.bool ((decide (a1.Rep ≥ 0)) && (decide (a1.Rep < (Sl.len y2))))))]) σ') ?_ ?_
  · cases hc3 : (decide (a1.Rep ≥ 0))
    · skip
      refine WH.by rfl rfl rfl ?_
      refine WH.by rfl rfl rfl ?_
      refine WH.by rfl rfl rfl ?_
      refine WH.by rfl rfl rfl ?_
      refine WH.by rfl rfl rfl ?_
      refine WH.step (v := (.bool false)) rfl rfl rfl rfl ?_
      refine WH.nil ?_
      exact (known_cons rfl (known_cons rfl (known_cons rfl known_nil)))
    · skip
      refine WH.go0 rfl rfl ?_
      refine WH.step (v := (.ptr i1 2)) rfl rfl rfl rfl ?_
      refine WH.go0 rfl rfl ?_
      refine WH.step (v := (.int .i64 a1.Rep)) rfl (stp_load rfl (H.get 0 rfl) rfl) rfl rfl ?_
      refine WH.go0 rfl rfl ?_
      refine WH.step (v := (encSl e_Api_CSN y2)) rfl rfl rfl rfl ?_
      refine WH.go0 rfl rfl ?_
      refine WH.step (v := (.int .i64 (Sl.len y2))) rfl (stp_len rfl (isSl_enc _ _) rfl) rfl rfl ?_
      refine WH.go0 rfl rfl ?_
      refine WH.step (v := (.bool (decide (a1.Rep < (Sl.len y2))))) rfl rfl rfl rfl ?_
      refine WH.step (v := (.bool (decide (a1.Rep < (Sl.len y2))))) rfl rfl rfl rfl ?_
      refine WH.nil ?_
      exact (known_cons rfl (known_cons rfl (known_cons rfl known_nil)))
  · intro σ hk
    refine WH.of_known hk ?_
    refine WH.step (v := (.bool ((decide (a1.Rep ≥ 0)) && (decide (a1.Rep < (Sl.len y2)))))) rfl rfl rfl rfl ?_
    obtain ⟨y7, hy7, hOy7⟩ := bindS h
    refine WD.split 3 (fun σ' S' e' => Known ([(27, (.bool y7))]) σ' ∧ Hp [] [] S' [(i1, [(.int .i64 a1.Time), (.int .i64 a1.Seq), (.int .i64 a1.Rep)])] [] ∧ e' = false) ?_ ?_
    · replace h := hy7
      cases hc10 : ((decide (a1.Rep ≥ 0)) && (decide (a1.Rep < (Sl.len y2))))
      · replace h := iteF h hc10
        refine WH.by rfl rfl rfl ?_
        refine WH.by rfl rfl rfl ?_
        refine WH.by rfl rfl rfl ?_
        refine WH.by rfl rfl rfl ?_
        refine WH.by rfl rfl rfl ?_
        refine WH.by rfl rfl rfl ?_
        refine WH.nil ?_
        refine WO.by rfl rfl rfl ?_
        refine WO.by rfl rfl rfl ?_
        refine WO.step (v := (.bool false)) rfl rfl ?_
        refine WO.nil ?_
        obtain rfl := Option.some.inj h
        exact ⟨(known_cons rfl known_nil), (H.sub (.cons_cons _ .slnil) .slnil), rfl⟩
      · replace h := iteT h hc10
        refine WH.go0 rfl rfl ?_
        refine WH.step (v := (.agg [(.int .i64 a1.Time), (.int .i64 a1.Seq), (.int .i64 a1.Rep)])) rfl (stp_load rfl (H.get 0 rfl) rfl) rfl rfl ?_
        refine WH.go0 rfl rfl ?_
        refine WH.step (v := (encSl e_Api_CSN y2)) rfl rfl rfl rfl ?_
        refine WH.go0 rfl rfl ?_
        refine WH.step (v := (.ptr i1 2)) rfl rfl rfl rfl ?_
        refine WH.go0 rfl rfl ?_
        refine WH.step (v := (.int .i64 a1.Rep)) rfl (stp_load rfl (H.get 0 rfl) rfl) rfl rfl ?_
        refine WH.go0 rfl rfl ?_
        obtain ⟨y8, hy8, h⟩ := bindS h
        refine WH.step (v := (.iptr [(.int .i64 y8.Time), (.int .i64 y8.Seq), (.int .i64 y8.Rep)] 0)) rfl (stp_idxAddr rfl (isSl_enc _ _) rfl rfl rfl hy8 (e_Api_CSN_cells _) rfl) rfl rfl ?_
        refine WH.go0 rfl rfl ?_
        refine WH.step (v := (.agg [(.int .i64 y8.Time), (.int .i64 y8.Seq), (.int .i64 y8.Rep)])) rfl rfl rfl rfl ?_
        refine WH.nil ?_
        refine WO.go0 rfl rfl ?_
        obtain ⟨y9, hy9, h⟩ := bindS h
        refine WO.step (v := (.int .i64 y9)) rfl (stp_call (vs := [(.agg [(.int .i64 a1.Time), (.int .i64 a1.Seq), (.int .i64 a1.Rep)]), (.agg [(.int .i64 y8.Time), (.int .i64 y8.Seq), (.int .i64 y8.Rep)])]) rfl rfl (s51 _ hy9 rfl _)) ?_
        refine WO.go0 rfl rfl ?_
        refine WO.step (v := (.bool (decide (y9 ≤ 0)))) rfl rfl ?_
        refine WO.step (v := (.bool (decide (y9 ≤ 0)))) rfl rfl ?_
        refine WO.nil ?_
        obtain rfl := Option.some.inj h
        exact ⟨(known_cons rfl known_nil), (H.sub (.cons_cons _ .slnil) .slnil), rfl⟩
    · rintro σ S e ⟨hk, H, rfl⟩
      replace h := hOy7
      refine WO.of_known hk ?_
      refine WO.step (v := (.bool y7)) rfl rfl ?_
      refine WO.nil ?_
      refine KX.seq_n ?_
      refine WC.ret ?_
      obtain rfl := Option.some.inj h
      refine KB.ret (vs := [(.bool y7)]) (res_tmp rfl res_nil) ?_
      exact rfl
-- 35 prefect/prefectref10.Least
def F35_L0 (k : Nat) (a53 : Sl Api_CSN) (a56 : Api_CSN) : Nat → Int → Api_CSN → Option (Int × Api_CSN)
  | 0, _, _ => none
  | n + 1, x54, b55 =>
    if decide (x54 < (Sl.len a53)) then
    Option.bind (Sl.at? a53 x54) fun y67 =>
    Option.bind (F51 k y67 b55) fun y68 =>
    Option.bind (if decide (y68 < 0) then
    Option.bind (Sl.at? a53 x54) fun y74 =>
    some y74
    else
    some b55) fun y73 =>
    F35_L0 k a53 a56 n (ad .i64 x54 1) y73
    else
    some (x54, b55)
/-- prefect/prefectref10.Least -/
def F35 (k : Nat) (a0 : Sl Api_CSN) : Option Api_CSN :=
  Option.bind (F37 k a0) fun y2 =>
  if (Sl.len y2) == 0 then
  some (Api_CSN.mk 0 0 0)
  else
  Option.bind (Sl.at? y2 0) fun y4 =>
  Option.bind (F35_L0 k y2 (Api_CSN.mk 0 0 0) k 1 y4) fun y77 =>
  some y77.2
theorem l35_L0 {k : Nat} {a53 : Sl Api_CSN} {a56 : Api_CSN} {S0 : List SObj} {R : List Nat} {K : KX} {i5 : Nat} {i1 : Nat} (hi5 : S0.length ≤ i5) (hi1 : S0.length ≤ i1)  {o : (Int × Api_CSN)}
    (hbrk : ∀ {σ' : Nat → PV} {S' : List SObj}, Known [(2, (.ptr i1 0)), (4, (.ptr i5 0)), (5, (.int .i64 o.1))] σ' → Hp S0 R S' [(i5, [(.int .i64 o.2.Time), (.int .i64 o.2.Seq), (.int .i64 o.2.Rep)]), (i1, [(.int .i64 a56.Time), (.int .i64 a56.Seq), (.int .i64 a56.Rep)])] [] → K (.exit 0) σ' S' false) :
    ∀ {n : Nat} {x54 : Int} {b55 : Api_CSN}, F35_L0 k a53 a56 n x54 b55 = some o → ∀ {σ : Nat → PV} {S : List SObj}, Known [(2, (.ptr i1 0)), (3, (encSl e_Api_CSN a53)), (4, (.ptr i5 0)), (5, (.int .i64 x54))] σ → Hp S0 R S [(i5, [(.int .i64 b55.Time), (.int .i64 b55.Seq), (.int .i64 b55.Rep)]), (i1, [(.int .i64 a56.Time), (.int .i64 a56.Seq), (.int .i64 a56.Rep)])] [] → WC env ⟨33, S0.length⟩ (.loop pc35L0) σ S false K := by
  intro n
  induction n with
  | zero => intro _ _ h; cases h
  | succ n ih =>
    intro x54 b55 h σ S  hk H
    rw [F35_L0] at h
    refine WC.loop ?_
    refine WC.of_known hk ?_
    refine WC.seq ?_
    refine WC.seqR ?_
    refine WO.step (v := (.int .i64 x54)) rfl rfl ?_
    refine WO.step (v := (encSl e_Api_CSN a53)) rfl rfl ?_
    refine WO.step (v := (.int .i64 (Sl.len a53))) rfl (stp_len rfl (isSl_enc _ _) rfl) ?_
    refine WO.step (v := (.bool (decide (x54 < (Sl.len a53))))) rfl rfl ?_
    refine WO.nil ?_
    rcases iteS h with ⟨hc76, h⟩ | ⟨hc76, h⟩
    · refine WC.condT rfl hc76 ?_
      refine WC.skip ?_
      refine KX.seq_n ?_
      refine WC.seq ?_
      refine WC.block ?_
      refine WC.seq ?_
      refine WC.draw ?_
      refine WH.step (v := (encSl e_Api_CSN a53)) rfl rfl rfl rfl ?_
      refine WH.step (v := (.int .i64 x54)) rfl rfl rfl rfl ?_
      obtain ⟨y67, hy67, h⟩ := bindS h
      refine WH.step (v := (.iptr [(.int .i64 y67.Time), (.int .i64 y67.Seq), (.int .i64 y67.Rep)] 0)) rfl (stp_idxAddr rfl (isSl_enc _ _) rfl rfl rfl hy67 (e_Api_CSN_cells _) rfl) rfl rfl ?_
      refine WH.step (v := (.agg [(.int .i64 y67.Time), (.int .i64 y67.Seq), (.int .i64 y67.Rep)])) rfl rfl rfl rfl ?_
      refine WH.step (v := (.agg [(.int .i64 b55.Time), (.int .i64 b55.Seq), (.int .i64 b55.Rep)])) rfl (stp_load rfl (H.get 0 rfl) rfl) rfl rfl ?_
      refine WH.nil ?_
      obtain ⟨y68, hy68, h⟩ := bindS h
      refine WO.step (v := (.int .i64 y68)) rfl (stp_call (vs := [(.agg [(.int .i64 y67.Time), (.int .i64 y67.Seq), (.int .i64 y67.Rep)]), (.agg [(.int .i64 b55.Time), (.int .i64 b55.Seq), (.int .i64 b55.Rep)])]) rfl rfl (s51 _ hy68 rfl _)) ?_
      refine WO.step (v := (.bool (decide (y68 < 0)))) rfl rfl ?_
      refine WO.nil ?_
      refine KX.seq_n ?_
      obtain ⟨y73, hy73, hOy73⟩ := bindS h
      refine WC.join (fun σ' S' e' => Known ([(2, (.ptr i1 0)), (3, (encSl e_Api_CSN a53)), (4, (.ptr i5 0)), (5, (.int .i64 x54))]) σ' ∧ Hp S0 R S' [(i5, [(.int .i64 y73.Time), (.int .i64 y73.Seq), (.int .i64 y73.Rep)]), (i1, [(.int .i64 a56.Time), (.int .i64 a56.Seq), (.int .i64 a56.Rep)])] [] ∧ e' = false) ?_ ?_
      · replace h := hy73
        rcases iteS h with ⟨hc75, h⟩ | ⟨hc75, h⟩
        · refine WC.condT rfl hc75 ?_
          refine WC.region ?_
          refine WO.step (v := (encSl e_Api_CSN a53)) rfl rfl ?_
          refine WO.step (v := (.int .i64 x54)) rfl rfl ?_
          obtain ⟨y74, hy74, h⟩ := bindS h
          refine WO.step (v := (.iptr [(.int .i64 y74.Time), (.int .i64 y74.Seq), (.int .i64 y74.Rep)] 0)) rfl (stp_idxAddr rfl (isSl_enc _ _) rfl rfl rfl hy74 (e_Api_CSN_cells _) rfl) ?_
          refine WO.step (v := (.agg [(.int .i64 y74.Time), (.int .i64 y74.Seq), (.int .i64 y74.Rep)])) rfl rfl ?_
          refine WO.store 0 rfl H rfl rfl rfl rfl rfl rfl rfl (Nat.le_of_ble_eq_true rfl) rfl (own_e hi5) ?_
          intro S H
          replace H : Hp S0 R _ [(i5, [(.int .i64 y74.Time), (.int .i64 y74.Seq), (.int .i64 y74.Rep)]), (i1, [(.int .i64 a56.Time), (.int .i64 a56.Seq), (.int .i64 a56.Rep)])] [] := H
          refine WO.nil ?_
          refine KX.seq_n ?_
          obtain rfl := Option.some.inj h
          exact ⟨(known_cons rfl (known_cons rfl (known_cons rfl (known_cons rfl known_nil)))), (H.sub (.cons_cons _ (.cons_cons _ .slnil)) .slnil), rfl⟩
        · refine WC.condF rfl hc75 ?_
          refine WC.skip ?_
          refine KX.seq_n ?_
          obtain rfl := Option.some.inj h
          exact ⟨(known_cons rfl (known_cons rfl (known_cons rfl (known_cons rfl known_nil)))), (H.sub (.cons_cons _ (.cons_cons _ .slnil)) .slnil), rfl⟩
      · rintro σ S e ⟨hk, H, rfl⟩
        replace h := hOy73
        refine KX.of_known hk ?_
        refine KX.block_n ?_
        refine KX.seq_n ?_
        refine WC.region ?_
        refine WO.step (v := (.int .i64 x54)) rfl rfl ?_
        refine WO.step (v := (.int .i64 (ad .i64 x54 1))) rfl rfl ?_
        refine WO.step (v := (.int .i64 (ad .i64 x54 1))) rfl rfl ?_
        refine WO.nil ?_
        refine KX.seq_n ?_
        exact ih h  (known_cons rfl (known_cons rfl (known_cons rfl (known_cons rfl known_nil)))) (H.sub (.cons_cons _ (.cons_cons _ .slnil)) .slnil)
    · refine WC.condF rfl hc76 ?_
      refine WC.exit ?_
      refine KX.seq_x ?_
      refine KX.seq_x ?_
      obtain rfl := Option.some.inj h
      exact hbrk  (known_cons rfl (known_cons rfl (known_cons rfl known_nil))) (H.sub (.cons_cons _ (.cons_cons _ .slnil)) .slnil)
theorem s35 : ∀ k : Nat, ∀ {a0 : Sl Api_CSN} {r : Api_CSN}, F35 k a0 = some r → ∀ {vs : List PV}, vs.map PV.strip = [(encSl e_Api_CSN a0)] → ∀ S : List SObj, evw env 35 vs S = some ((.agg [(.int .i64 r.Time), (.int .i64 r.Seq), (.int .i64 r.Rep)]), S, false) := by
  intro k a0 r h vs ha S
  unfold F35 at h
  refine evw_pureW (pf := fn35) rfl rfl ha (Nat.le_of_ble_eq_true rfl) (by simp [PV.clean, cleanL, clean_encSl clean_Api_CSN]) rfl ?_
  refine WB.of (pf := fn35) rfl ?_
  have H := Hp.start []
  refine WC.seqR ?_
  refine WO.alloc' (ti := ty50) rfl rfl rfl rfl H ?_
  intro i1 S hi1 H
  refine WO.nil ?_
  refine WC.seqR ?_
  refine WO.step (v := (encSl e_Api_CSN a0)) rfl rfl ?_
  obtain ⟨y2, hy2, h⟩ := bindS h
  refine WO.step (v := (encSl e_Api_CSN y2)) rfl (stp_call (vs := [(encSl e_Api_CSN a0)]) rfl rfl (s37 _ hy2 (by simp only [strip_enc, List.map_cons, List.map_nil, tupled]) _)) ?_
  refine WO.step (v := (encSl e_Api_CSN y2)) rfl rfl ?_
  refine WO.nil ?_
  refine WC.seq ?_
  refine WC.seqR ?_
  refine WO.step (v := (encSl e_Api_CSN y2)) rfl rfl ?_
  refine WO.step (v := (.int .i64 (Sl.len y2))) rfl (stp_len rfl (isSl_enc _ _) rfl) ?_
  refine WO.step (v := (.bool ((Sl.len y2) == 0))) rfl rfl ?_
  refine WO.nil ?_
  rcases iteS h with ⟨hc78, h⟩ | ⟨hc78, h⟩
  · refine WC.condT rfl hc78 ?_
    refine WC.seqR ?_
    refine WO.step (v := (.agg [(.int .i64 0), (.int .i64 0), (.int .i64 0)])) rfl (stp_build (ti := ty50) rfl rfl rfl rfl rfl rfl) ?_
    refine WO.store 0 rfl H rfl rfl rfl rfl rfl rfl rfl (Nat.le_of_ble_eq_true rfl) rfl (own_e hi1) ?_
    intro S H
    replace H : Hp [] [] _ [(i1, [(.int .i64 0), (.int .i64 0), (.int .i64 0)])] [] := H
    refine WO.nil ?_
    refine WC.ret ?_
    refine KX.seq_r ?_
    obtain rfl := Option.some.inj h
    refine KB.ret (vs := [(.agg [(.int .i64 0), (.int .i64 0), (.int .i64 0)])]) (res_cell rfl (H.get 0 rfl) rfl res_nil) ?_
    exact rfl
  · refine WC.condF rfl hc78 ?_
    refine WC.skip ?_
    refine KX.seq_n ?_
    refine WC.seqR ?_
    refine WO.step (v := (encSl e_Api_CSN y2)) rfl rfl ?_
    obtain ⟨y4, hy4, h⟩ := bindS h
    refine WO.step (v := (.iptr [(.int .i64 y4.Time), (.int .i64 y4.Seq), (.int .i64 y4.Rep)] 0)) rfl (stp_idxAddr rfl (isSl_enc _ _) rfl rfl rfl hy4 (e_Api_CSN_cells _) rfl) ?_
    refine WO.step (v := (.agg [(.int .i64 y4.Time), (.int .i64 y4.Seq), (.int .i64 y4.Rep)])) rfl rfl ?_
    refine WO.alloc' (ti := ty50) rfl rfl rfl rfl H ?_
    intro i5 S hi5 H
    refine WO.store 0 rfl H rfl rfl rfl rfl rfl rfl rfl (Nat.le_of_ble_eq_true rfl) rfl (own_e hi5) ?_
    intro S H
    replace H : Hp [] [] _ [(i5, [(.int .i64 y4.Time), (.int .i64 y4.Seq), (.int .i64 y4.Rep)]), (i1, [(.int .i64 0), (.int .i64 0), (.int .i64 0)])] [] := H
    refine WO.nil ?_
    refine WC.seq ?_
    refine WC.seqR ?_
    refine WO.step (v := (.int .i64 1)) rfl rfl ?_
    refine WO.nil ?_
    obtain ⟨y77, hy77, hOy77⟩ := bindS h
    refine WC.block ?_
    refine l35_L0 hi5 hi1 ?_ hy77  (known_cons rfl (known_cons rfl (known_cons rfl (known_cons rfl known_nil)))) (H.sub (.cons_cons _ (.cons_cons _ .slnil)) .slnil)
    · intro σ S  hk H; replace h := hOy77
      refine KX.of_known hk ?_
      refine KX.block_x ?_
      refine KX.seq_n ?_
      refine WC.seqR ?_
      refine WO.step (v := (.agg [(.int .i64 y77.2.Time), (.int .i64 y77.2.Seq), (.int .i64 y77.2.Rep)])) rfl (stp_load rfl (H.get 0 rfl) rfl) ?_
      refine WO.store 1 rfl H rfl rfl rfl rfl rfl rfl rfl (Nat.le_of_ble_eq_true rfl) rfl (own_e hi1) ?_
      intro S H
      replace H : Hp [] [] _ [(i5, [(.int .i64 y77.2.Time), (.int .i64 y77.2.Seq), (.int .i64 y77.2.Rep)]), (i1, [(.int .i64 y77.2.Time), (.int .i64 y77.2.Seq), (.int .i64 y77.2.Rep)])] [] := H
      refine WO.nil ?_
      refine WC.ret ?_
      obtain rfl := Option.some.inj h
      refine KB.ret (vs := [(.agg [(.int .i64 y77.2.Time), (.int .i64 y77.2.Seq), (.int .i64 y77.2.Rep)])]) (res_cell rfl (H.get 1 rfl) rfl res_nil) ?_
      exact rfl
-- openings
inductive Ok_Api_Element : Api_Element → Prop
  | mk (x : Api_Element) (h0 : (Lit.int .u8 x.Tag).wf = true) (h1 : x.Body.length ≤ maxLen) (h2 : (Sl.l x.Kids).length ≤ maxLen) (g2 : ∀ a ∈ Sl.l x.Kids, Ok_Api_Element a) : Ok_Api_Element x
theorem opens_Api_Element {H : Type} {enc : TypeId × Value → H} {w : World} {sp : Nat → Bool} {held : Bool} (hsp : ∀ b, sp b = true) : ∀ fuel, Opens enc Try.prog w sp held fuel 27 e_Api_Element Ok_Api_Element := by
  intro fuel
  induction fuel using Nat.strongRecOn with
  | ind fuel ih =>
  intro cs x h
  obtain ⟨xs, m, rfl, _, hl, hx, hf⟩ := DataW.trod_struct Try.underlying27 h
  have hl : cs.length = 3 := hl.trans (by kernel_rfl)
  have hx : xs.length = 3 := hx
  have c0 : ∃ y, DataW.trod enc Try.prog w 0 sp held m 5 ((cs.drop 0).take 1) = some y := by
    have h1 := hf 0 _ rfl
    have h2 : DataW.trod enc Try.prog w 0 sp held m 5 ((cs.drop 0).take (Try.prog.cellsOf 5)) = xs[0]? := h1
    rw [show Try.prog.cellsOf 5 = 1 from by kernel_rfl, List.getElem?_eq_getElem (by omega)] at h2
    exact ⟨_, h2⟩
  obtain ⟨y0, hy0⟩ := c0
  obtain ⟨a0, o0, v0⟩ := (fun m => opens_int Try.underlying5) m _ _ hy0
  have c1 : ∃ y, DataW.trod enc Try.prog w 0 sp held m 9 ((cs.drop 1).take 1) = some y := by
    have h1 := hf 1 _ rfl
    have h2 : DataW.trod enc Try.prog w 0 sp held m 9 ((cs.drop 1).take (Try.prog.cellsOf 9)) = xs[1]? := h1
    rw [show Try.prog.cellsOf 9 = 1 from by kernel_rfl, List.getElem?_eq_getElem (by omega)] at h2
    exact ⟨_, h2⟩
  obtain ⟨y1, hy1⟩ := c1
  obtain ⟨a1, o1, v1⟩ := (fun m => opens_str Try.underlying9) m _ _ hy1
  have c2 : ∃ y, DataW.trod enc Try.prog w 0 sp held m 22 ((cs.drop 2).take 1) = some y := by
    have h1 := hf 2 _ rfl
    have h2 : DataW.trod enc Try.prog w 0 sp held m 22 ((cs.drop 2).take (Try.prog.cellsOf 22)) = xs[2]? := h1
    rw [show Try.prog.cellsOf 22 = 1 from by kernel_rfl, List.getElem?_eq_getElem (by omega)] at h2
    exact ⟨_, h2⟩
  obtain ⟨y2, hy2⟩ := c2
  obtain ⟨a2, o2, v2⟩ := (fun m => opens_slice (sz := 3) Try.underlying22 (by kernel_rfl) (by decide) (fun a => (e_Api_Element_one a).2.1) hsp (fun n hn => ih n (by omega))) m _ _ hy2
  refine ⟨⟨a0, a1, a2⟩, .mk _ o0 o1 o2.1 o2.2, ?_⟩
  rw [e_Api_Element_cells]
  have hc := CV.field v0 (CV.field v1 (CV.field v2 (CV.fin hl)))
  rw [List.drop_zero] at hc
  rw [show (encSl e_Api_Element a2).cells = [encSl e_Api_Element a2] from (isSl_enc _ a2).one.2] at hc
  exact hc
theorem Ok_Api_Element.h0 {x : Api_Element} (h : Ok_Api_Element x) : (Lit.int .u8 x.Tag).wf = true := by cases h; first | assumption | exact ⟨‹_›, ‹_›⟩
theorem Ok_Api_Element.h1 {x : Api_Element} (h : Ok_Api_Element x) : x.Body.length ≤ maxLen := by cases h; first | assumption | exact ⟨‹_›, ‹_›⟩
theorem Ok_Api_Element.h2 {x : Api_Element} (h : Ok_Api_Element x) : ((Sl.l x.Kids).length ≤ maxLen ∧ ∀ a ∈ Sl.l x.Kids, Ok_Api_Element a) := by cases h; first | assumption | exact ⟨‹_›, ‹_›⟩
end Go.Proofs.Ythcchjhieolflaa.M
