/- Part of the proof: the runs of functions on the abstract machine. -/
import Derived.Test.YtecimmaoilignaaGreatDoorPamM4
import Derived.Test.YtecimmaoilignaaGreatDoorSL
import Derived.Test.YtecimmaoilignaaGreatDoorSDe
namespace Go.Proofs.YtecimmaoilignaaGreatDoor.M.L
open Go Go.Pam Go.RowKit Go.WideShapes
set_option maxRecDepth 4000
set_option linter.unusedVariables false
set_option linter.unusedSimpArgs false
-- 109 internal/stringslite.HasPrefix
/-- internal/stringslite.HasPrefix -/
def F109 (k : Nat) (a0 : Str) (a1 : Str) : Option Bool :=
  Option.bind (if decide ((Str.len a0) ≥ (Str.len a1)) then
  Option.bind (Str.sub? a0 0 (Str.len a1)) fun z6 =>
  some (z6 == a1)
  else
  some false) fun y5 =>
  some y5
theorem s109 : ∀ k : Nat, ∀ {a0 : Str} {a1 : Str} {r : Bool}, F109 k a0 a1 = some r → ∀ {vs : List PV}, vs.map PV.strip = [(.str a0), (.str a1)] → ∀ S : List SObj, evw env 109 vs S = some ((.bool r), S, false) := by
  intro k a0 a1 r h vs ha S
  unfold F109 at h
  refine evw_pureW (pf := fn109) rfl rfl ha (Nat.le_of_ble_eq_true rfl) rfl rfl ?_
  refine WB.of (pf := fn109) rfl ?_
  have H := Hp.start []
  refine WC.seqR ?_
  refine WO.step (v := (.bool false)) rfl (nz rfl rfl) ?_
  refine WO.nil ?_
  refine WC.seqR ?_
  refine WO.step (v := (.str a0)) rfl (nz rfl rfl) ?_
  refine WO.step (v := (.int .i64 (Str.len a0))) rfl (nz rfl rfl) ?_
  refine WO.step (v := (.str a1)) rfl (nz rfl rfl) ?_
  refine WO.step (v := (.int .i64 (Str.len a1))) rfl (nz rfl rfl) ?_
  refine WO.step (v := (.bool (decide ((Str.len a0) ≥ (Str.len a1))))) rfl (nz rfl rfl) ?_
  refine WO.step (v := (.bool (decide ((Str.len a0) ≥ (Str.len a1))))) rfl (nz rfl rfl) ?_
  obtain ⟨y5, hy5, hOy5⟩ := bindS h
  refine WO.split 7 (fun σ' S' e' => Known ([(17, (.bool y5))]) σ' ∧ Hp [] [] S' [] [] [] ∧ e' = false) ?_ ?_
  · replace h := hy5
    revert H
    cases hc7 : (decide ((Str.len a0) ≥ (Str.len a1)))
    · intro H
      replace h := iteF h hc7
      refine WO.by rfl rfl rfl ?_
      refine WO.by rfl rfl rfl ?_
      refine WO.by rfl rfl rfl ?_
      refine WO.by rfl rfl rfl ?_
      refine WO.by rfl rfl rfl ?_
      refine WO.by rfl rfl rfl ?_
      refine WO.step (v := (.bool false)) rfl (nz rfl rfl) ?_
      refine WO.nil ?_
      obtain rfl := Option.some.inj h
      exact ⟨(known_cons rfl known_nil), (H.sub .slnil .slnil .slnil), rfl⟩
    · intro H
      replace h := iteT h hc7
      refine WO.go0 rfl rfl ?_
      refine WO.step (v := (.str a0)) rfl (nz rfl rfl) ?_
      refine WO.go0 rfl rfl ?_
      refine WO.step (v := (.str a1)) rfl (nz rfl rfl) ?_
      refine WO.go0 rfl rfl ?_
      refine WO.step (v := (.int .i64 (Str.len a1))) rfl (nz rfl rfl) ?_
      refine WO.go0 rfl rfl ?_
      obtain ⟨z6, hz6, h⟩ := bindS h
      refine WO.step (v := (.str z6)) rfl (nz rfl (stp_subStr rfl rfl rfl rfl hz6)) ?_
      refine WO.go0 rfl rfl ?_
      refine WO.step (v := (.str a1)) rfl (nz rfl rfl) ?_
      refine WO.go0 rfl rfl ?_
      refine WO.step (v := (.bool (z6 == a1))) rfl (nz rfl rfl) ?_
      refine WO.step (v := (.bool (z6 == a1))) rfl (nz rfl rfl) ?_
      refine WO.nil ?_
      obtain rfl := Option.some.inj h
      exact ⟨(known_cons rfl known_nil), (H.sub .slnil .slnil .slnil), rfl⟩
  · rintro σ S e ⟨hk, H, rfl⟩
    replace h := hOy5
    refine WO.of_known hk ?_
    refine WO.step (v := (.bool y5)) rfl (nz rfl rfl) ?_
    refine WO.nil ?_
    refine WC.ret ?_
    obtain rfl := Option.some.inj h
    refine KB.ret (vs := [(.bool y5)]) (res_tmp rfl res_nil) (fl_cons' rfl rfl) ?_
    exact rfl
-- 65 strings.HasPrefix
/-- strings.HasPrefix -/
def F65 (k : Nat) (a0 : Str) (a1 : Str) : Option Bool :=
  Option.bind (F109 k a0 a1) fun y1 =>
  some y1
theorem s65 : ∀ k : Nat, ∀ {a0 : Str} {a1 : Str} {r : Bool}, F65 k a0 a1 = some r → ∀ {vs : List PV}, vs.map PV.strip = [(.str a0), (.str a1)] → ∀ S : List SObj, evw env 65 vs S = some ((.bool r), S, false) := by
  intro k a0 a1 r h vs ha S
  unfold F65 at h
  refine evw_pureW (pf := fn65) rfl rfl ha (Nat.le_of_ble_eq_true rfl) rfl rfl ?_
  refine WB.of (pf := fn65) rfl ?_
  have H := Hp.start []
  refine WC.seqR ?_
  refine WO.step (v := (.bool false)) rfl (nz rfl rfl) ?_
  refine WO.nil ?_
  refine WC.seqR ?_
  refine WO.step (v := (.str a0)) rfl (nz rfl rfl) ?_
  refine WO.step (v := (.str a1)) rfl (nz rfl rfl) ?_
  obtain ⟨y1, hy1, h⟩ := bindS h
  refine WO.step (v := (.bool y1)) rfl (nz rfl (stp_call (vs := [(.str a0), (.str a1)]) rfl rfl (s109 _ hy1 rfl _))) ?_
  refine WO.step (v := (.bool y1)) rfl (nz rfl rfl) ?_
  refine WO.nil ?_
  refine WC.ret ?_
  obtain rfl := Option.some.inj h
  refine KB.ret (vs := [(.bool y1)]) (res_tmp rfl res_nil) (fl_cons' rfl rfl) ?_
  exact rfl
-- 150 internal/stringslite.TrimPrefix
/-- internal/stringslite.TrimPrefix -/
def F150 (k : Nat) (a0 : Str) (a1 : Str) : Option Str :=
  Option.bind (F109 k a0 a1) fun y1 =>
  if y1 then
  Option.bind (Str.sub? a0 (Str.len a1) (Str.len a0)) fun z4 =>
  some z4
  else
  some a0
theorem s150 : ∀ k : Nat, ∀ {a0 : Str} {a1 : Str} {r : Str}, F150 k a0 a1 = some r → ∀ {vs : List PV}, vs.map PV.strip = [(.str a0), (.str a1)] → ∀ S : List SObj, evw env 150 vs S = some ((.str r), S, false) := by
  intro k a0 a1 r h vs ha S
  unfold F150 at h
  refine evw_pureW (pf := fn150) rfl rfl ha (Nat.le_of_ble_eq_true rfl) rfl rfl ?_
  refine WB.of (pf := fn150) rfl ?_
  have H := Hp.start []
  refine WC.seqR ?_
  refine WO.step (v := (.str [])) rfl (nz rfl rfl) ?_
  refine WO.nil ?_
  refine WC.seq ?_
  refine WC.seqR ?_
  refine WO.step (v := (.str a0)) rfl (nz rfl rfl) ?_
  refine WO.step (v := (.str a1)) rfl (nz rfl rfl) ?_
  obtain ⟨y1, hy1, h⟩ := bindS h
  refine WO.step (v := (.bool y1)) rfl (nz rfl (stp_call (vs := [(.str a0), (.str a1)]) rfl rfl (s109 _ hy1 rfl _))) ?_
  refine WO.nil ?_
  rcases iteS h with ⟨hc5, h⟩ | ⟨hc5, h⟩
  · refine WC.condT rfl hc5 ?_
    refine WC.seqR ?_
    refine WO.step (v := (.str a0)) rfl (nz rfl rfl) ?_
    refine WO.step (v := (.str a1)) rfl (nz rfl rfl) ?_
    refine WO.step (v := (.int .i64 (Str.len a1))) rfl (nz rfl rfl) ?_
    obtain ⟨z4, hz4, h⟩ := bindS h
    refine WO.step (v := (.str z4)) rfl (nz rfl (stp_subStr rfl rfl rfl rfl hz4)) ?_
    refine WO.step (v := (.str z4)) rfl (nz rfl rfl) ?_
    refine WO.nil ?_
    refine WC.ret ?_
    refine KX.seq_r ?_
    obtain rfl := Option.some.inj h
    refine KB.ret (vs := [(.str z4)]) (res_tmp rfl res_nil) (fl_cons' rfl rfl) ?_
    exact rfl
  · refine WC.condF rfl hc5 ?_
    refine WC.skip ?_
    refine KX.seq_n ?_
    refine WC.seqR ?_
    refine WO.step (v := (.str a0)) rfl (nz rfl rfl) ?_
    refine WO.step (v := (.str a0)) rfl (nz rfl rfl) ?_
    refine WO.nil ?_
    refine WC.ret ?_
    obtain rfl := Option.some.inj h
    refine KB.ret (vs := [(.str a0)]) (res_tmp rfl res_nil) (fl_cons' rfl rfl) ?_
    exact rfl
-- 115 strings.TrimPrefix
/-- strings.TrimPrefix -/
def F115 (k : Nat) (a0 : Str) (a1 : Str) : Option Str :=
  Option.bind (F150 k a0 a1) fun y1 =>
  some y1
theorem s115 : ∀ k : Nat, ∀ {a0 : Str} {a1 : Str} {r : Str}, F115 k a0 a1 = some r → ∀ {vs : List PV}, vs.map PV.strip = [(.str a0), (.str a1)] → ∀ S : List SObj, evw env 115 vs S = some ((.str r), S, false) := by
  intro k a0 a1 r h vs ha S
  unfold F115 at h
  refine evw_pureW (pf := fn115) rfl rfl ha (Nat.le_of_ble_eq_true rfl) rfl rfl ?_
  refine WB.of (pf := fn115) rfl ?_
  have H := Hp.start []
  refine WC.seqR ?_
  refine WO.step (v := (.str [])) rfl (nz rfl rfl) ?_
  refine WO.nil ?_
  refine WC.seqR ?_
  refine WO.step (v := (.str a0)) rfl (nz rfl rfl) ?_
  refine WO.step (v := (.str a1)) rfl (nz rfl rfl) ?_
  obtain ⟨y1, hy1, h⟩ := bindS h
  refine WO.step (v := (.str y1)) rfl (nz rfl (stp_call (vs := [(.str a0), (.str a1)]) rfl rfl (s150 _ hy1 rfl _))) ?_
  refine WO.step (v := (.str y1)) rfl (nz rfl rfl) ?_
  refine WO.nil ?_
  refine WC.ret ?_
  obtain rfl := Option.some.inj h
  refine KB.ret (vs := [(.str y1)]) (res_tmp rfl res_nil) (fl_cons' rfl rfl) ?_
  exact rfl
-- 105 cmp.isNaN[int64]
/-- cmp.isNaN[int64] -/
def F105 (k : Nat) (a0 : Int) : Option Bool :=
  some (a0 != a0)
theorem s105 : ∀ k : Nat, ∀ {a0 : Int} {r : Bool}, F105 k a0 = some r → ∀ {vs : List PV}, vs.map PV.strip = [(.int .i64 a0)] → ∀ S : List SObj, evw env 105 vs S = some ((.bool r), S, false) := by
  intro k a0 r h vs ha S
  unfold F105 at h
  refine evw_pureW (pf := fn105) rfl rfl ha (Nat.le_of_ble_eq_true rfl) rfl rfl ?_
  refine WB.of (pf := fn105) rfl ?_
  have H := Hp.start []
  refine WC.seqR ?_
  refine WO.step (v := (.bool false)) rfl (nz rfl rfl) ?_
  refine WO.nil ?_
  refine WC.seqR ?_
  refine WO.step (v := (.int .i64 a0)) rfl (nz rfl rfl) ?_
  refine WO.step (v := (.int .i64 a0)) rfl (nz rfl rfl) ?_
  refine WO.step (v := (.bool (a0 != a0))) rfl (nz rfl rfl) ?_
  refine WO.step (v := (.bool (a0 != a0))) rfl (nz rfl rfl) ?_
  refine WO.nil ?_
  refine WC.ret ?_
  obtain rfl := Option.some.inj h
  refine KB.ret (vs := [(.bool (a0 != a0))]) (res_tmp rfl res_nil) (fl_cons' rfl rfl) ?_
  exact rfl
-- 60 cmp.Compare[int64]
/-- cmp.Compare[int64] -/
def F60 (k : Nat) (a0 : Int) (a1 : Int) : Option Int :=
  Option.bind (F105 k a0) fun y1 =>
  Option.bind (F105 k a1) fun y2 =>
  if y1 then
  if y2 then
  some 0
  else
  some (-1)
  else
  if y2 then
  some 1
  else
  if decide (a0 < a1) then
  some (-1)
  else
  if decide (a0 > a1) then
  some 1
  else
  some 0
theorem s60 : ∀ k : Nat, ∀ {a0 : Int} {a1 : Int} {r : Int}, F60 k a0 a1 = some r → ∀ {vs : List PV}, vs.map PV.strip = [(.int .i64 a0), (.int .i64 a1)] → ∀ S : List SObj, evw env 60 vs S = some ((.int .i64 r), S, false) := by
  intro k a0 a1 r h vs ha S
  unfold F60 at h
  refine evw_pureW (pf := fn60) rfl rfl ha (Nat.le_of_ble_eq_true rfl) rfl rfl ?_
  refine WB.of (pf := fn60) rfl ?_
  have H := Hp.start []
  refine WC.seqR ?_
  refine WO.step (v := (.int .i64 0)) rfl (nz rfl rfl) ?_
  refine WO.nil ?_
  refine WC.seqR ?_
  refine WO.step (v := (.int .i64 a0)) rfl (nz rfl rfl) ?_
  obtain ⟨y1, hy1, h⟩ := bindS h
  refine WO.step (v := (.bool y1)) rfl (nz rfl (stp_call (vs := [(.int .i64 a0)]) rfl rfl (s105 _ hy1 rfl _))) ?_
  refine WO.step (v := (.bool y1)) rfl (nz rfl rfl) ?_
  refine WO.nil ?_
  refine WC.seqR ?_
  refine WO.step (v := (.int .i64 a1)) rfl (nz rfl rfl) ?_
  obtain ⟨y2, hy2, h⟩ := bindS h
  refine WO.step (v := (.bool y2)) rfl (nz rfl (stp_call (vs := [(.int .i64 a1)]) rfl rfl (s105 _ hy2 rfl _))) ?_
  refine WO.step (v := (.bool y2)) rfl (nz rfl rfl) ?_
  refine WO.nil ?_
  refine WC.seq ?_
  refine WC.seqR ?_
  refine WO.step (v := (.bool y1)) rfl (nz rfl rfl) ?_
  refine WO.nil ?_
  rcases iteS h with ⟨hc14, h⟩ | ⟨hc14, h⟩
  · refine WC.condT rfl hc14 ?_
    refine WC.seq ?_
    refine WC.seqR ?_
    refine WO.step (v := (.bool y2)) rfl (nz rfl rfl) ?_
    refine WO.nil ?_
    rcases iteS h with ⟨hc7, h⟩ | ⟨hc7, h⟩
    · refine WC.condT rfl hc7 ?_
      refine WC.seqR ?_
      refine WO.step (v := (.int .i64 0)) rfl (nz rfl rfl) ?_
      refine WO.nil ?_
      refine WC.ret ?_
      refine KX.seq_r ?_
      refine KX.seq_r ?_
      obtain rfl := Option.some.inj h
      refine KB.ret (vs := [(.int .i64 0)]) (res_tmp rfl res_nil) (fl_cons' rfl rfl) ?_
      exact rfl
    · refine WC.condF rfl hc7 ?_
      refine WC.skip ?_
      refine KX.seq_n ?_
      refine WC.seqR ?_
      refine WO.step (v := (.int .i64 (-1))) rfl (nz rfl rfl) ?_
      refine WO.nil ?_
      refine WC.ret ?_
      refine KX.seq_r ?_
      obtain rfl := Option.some.inj h
      refine KB.ret (vs := [(.int .i64 (-1))]) (res_tmp rfl res_nil) (fl_cons' rfl rfl) ?_
      exact rfl
  · refine WC.condF rfl hc14 ?_
    refine WC.skip ?_
    refine KX.seq_n ?_
    refine WC.seq ?_
    refine WC.seqR ?_
    refine WO.step (v := (.bool y2)) rfl (nz rfl rfl) ?_
    refine WO.nil ?_
    rcases iteS h with ⟨hc13, h⟩ | ⟨hc13, h⟩
    · refine WC.condT rfl hc13 ?_
      refine WC.seqR ?_
      refine WO.step (v := (.int .i64 1)) rfl (nz rfl rfl) ?_
      refine WO.nil ?_
      refine WC.ret ?_
      refine KX.seq_r ?_
      obtain rfl := Option.some.inj h
      refine KB.ret (vs := [(.int .i64 1)]) (res_tmp rfl res_nil) (fl_cons' rfl rfl) ?_
      exact rfl
    · refine WC.condF rfl hc13 ?_
      refine WC.skip ?_
      refine KX.seq_n ?_
      refine WC.seq ?_
      refine WC.seqR ?_
      refine WO.step (v := (.int .i64 a0)) rfl (nz rfl rfl) ?_
      refine WO.step (v := (.int .i64 a1)) rfl (nz rfl rfl) ?_
      refine WO.step (v := (.bool (decide (a0 < a1)))) rfl (nz rfl rfl) ?_
      refine WO.nil ?_
      rcases iteS h with ⟨hc12, h⟩ | ⟨hc12, h⟩
      · refine WC.condT rfl hc12 ?_
        refine WC.seqR ?_
        refine WO.step (v := (.int .i64 (-1))) rfl (nz rfl rfl) ?_
        refine WO.nil ?_
        refine WC.ret ?_
        refine KX.seq_r ?_
        obtain rfl := Option.some.inj h
        refine KB.ret (vs := [(.int .i64 (-1))]) (res_tmp rfl res_nil) (fl_cons' rfl rfl) ?_
        exact rfl
      · refine WC.condF rfl hc12 ?_
        refine WC.skip ?_
        refine KX.seq_n ?_
        refine WC.seq ?_
        refine WC.seqR ?_
        refine WO.step (v := (.int .i64 a0)) rfl (nz rfl rfl) ?_
        refine WO.step (v := (.int .i64 a1)) rfl (nz rfl rfl) ?_
        refine WO.step (v := (.bool (decide (a0 > a1)))) rfl (nz rfl rfl) ?_
        refine WO.nil ?_
        rcases iteS h with ⟨hc11, h⟩ | ⟨hc11, h⟩
        · refine WC.condT rfl hc11 ?_
          refine WC.seqR ?_
          refine WO.step (v := (.int .i64 1)) rfl (nz rfl rfl) ?_
          refine WO.nil ?_
          refine WC.ret ?_
          refine KX.seq_r ?_
          obtain rfl := Option.some.inj h
          refine KB.ret (vs := [(.int .i64 1)]) (res_tmp rfl res_nil) (fl_cons' rfl rfl) ?_
          exact rfl
        · refine WC.condF rfl hc11 ?_
          refine WC.skip ?_
          refine KX.seq_n ?_
          refine WC.seqR ?_
          refine WO.step (v := (.int .i64 0)) rfl (nz rfl rfl) ?_
          refine WO.nil ?_
          refine WC.ret ?_
          obtain rfl := Option.some.inj h
          refine KB.ret (vs := [(.int .i64 0)]) (res_tmp rfl res_nil) (fl_cons' rfl rfl) ?_
          exact rfl
-- 106 cmp.isNaN[int]
/-- cmp.isNaN[int] -/
def F106 (k : Nat) (a0 : Int) : Option Bool :=
  some (a0 != a0)
theorem s106 : ∀ k : Nat, ∀ {a0 : Int} {r : Bool}, F106 k a0 = some r → ∀ {vs : List PV}, vs.map PV.strip = [(.int .i64 a0)] → ∀ S : List SObj, evw env 106 vs S = some ((.bool r), S, false) := by
  intro k a0 r h vs ha S
  unfold F106 at h
  refine evw_pureW (pf := fn106) rfl rfl ha (Nat.le_of_ble_eq_true rfl) rfl rfl ?_
  refine WB.of (pf := fn106) rfl ?_
  have H := Hp.start []
  refine WC.seqR ?_
  refine WO.step (v := (.bool false)) rfl (nz rfl rfl) ?_
  refine WO.nil ?_
  refine WC.seqR ?_
  refine WO.step (v := (.int .i64 a0)) rfl (nz rfl rfl) ?_
  refine WO.step (v := (.int .i64 a0)) rfl (nz rfl rfl) ?_
  refine WO.step (v := (.bool (a0 != a0))) rfl (nz rfl rfl) ?_
  refine WO.step (v := (.bool (a0 != a0))) rfl (nz rfl rfl) ?_
  refine WO.nil ?_
  refine WC.ret ?_
  obtain rfl := Option.some.inj h
  refine KB.ret (vs := [(.bool (a0 != a0))]) (res_tmp rfl res_nil) (fl_cons' rfl rfl) ?_
  exact rfl
-- 61 cmp.Compare[int]
/-- cmp.Compare[int] -/
def F61 (k : Nat) (a0 : Int) (a1 : Int) : Option Int :=
  Option.bind (F106 k a0) fun y1 =>
  Option.bind (F106 k a1) fun y2 =>
  if y1 then
  if y2 then
  some 0
  else
  some (-1)
  else
  if y2 then
  some 1
  else
  if decide (a0 < a1) then
  some (-1)
  else
  if decide (a0 > a1) then
  some 1
  else
  some 0
theorem s61 : ∀ k : Nat, ∀ {a0 : Int} {a1 : Int} {r : Int}, F61 k a0 a1 = some r → ∀ {vs : List PV}, vs.map PV.strip = [(.int .i64 a0), (.int .i64 a1)] → ∀ S : List SObj, evw env 61 vs S = some ((.int .i64 r), S, false) := by
  intro k a0 a1 r h vs ha S
  unfold F61 at h
  refine evw_pureW (pf := fn61) rfl rfl ha (Nat.le_of_ble_eq_true rfl) rfl rfl ?_
  refine WB.of (pf := fn61) rfl ?_
  have H := Hp.start []
  refine WC.seqR ?_
  refine WO.step (v := (.int .i64 0)) rfl (nz rfl rfl) ?_
  refine WO.nil ?_
  refine WC.seqR ?_
  refine WO.step (v := (.int .i64 a0)) rfl (nz rfl rfl) ?_
  obtain ⟨y1, hy1, h⟩ := bindS h
  refine WO.step (v := (.bool y1)) rfl (nz rfl (stp_call (vs := [(.int .i64 a0)]) rfl rfl (s106 _ hy1 rfl _))) ?_
  refine WO.step (v := (.bool y1)) rfl (nz rfl rfl) ?_
  refine WO.nil ?_
  refine WC.seqR ?_
  refine WO.step (v := (.int .i64 a1)) rfl (nz rfl rfl) ?_
  obtain ⟨y2, hy2, h⟩ := bindS h
  refine WO.step (v := (.bool y2)) rfl (nz rfl (stp_call (vs := [(.int .i64 a1)]) rfl rfl (s106 _ hy2 rfl _))) ?_
  refine WO.step (v := (.bool y2)) rfl (nz rfl rfl) ?_
  refine WO.nil ?_
  refine WC.seq ?_
  refine WC.seqR ?_
  refine WO.step (v := (.bool y1)) rfl (nz rfl rfl) ?_
  refine WO.nil ?_
  rcases iteS h with ⟨hc14, h⟩ | ⟨hc14, h⟩
  · refine WC.condT rfl hc14 ?_
    refine WC.seq ?_
    refine WC.seqR ?_
    refine WO.step (v := (.bool y2)) rfl (nz rfl rfl) ?_
    refine WO.nil ?_
    rcases iteS h with ⟨hc7, h⟩ | ⟨hc7, h⟩
    · refine WC.condT rfl hc7 ?_
      refine WC.seqR ?_
      refine WO.step (v := (.int .i64 0)) rfl (nz rfl rfl) ?_
      refine WO.nil ?_
      refine WC.ret ?_
      refine KX.seq_r ?_
      refine KX.seq_r ?_
      obtain rfl := Option.some.inj h
      refine KB.ret (vs := [(.int .i64 0)]) (res_tmp rfl res_nil) (fl_cons' rfl rfl) ?_
      exact rfl
    · refine WC.condF rfl hc7 ?_
      refine WC.skip ?_
      refine KX.seq_n ?_
      refine WC.seqR ?_
      refine WO.step (v := (.int .i64 (-1))) rfl (nz rfl rfl) ?_
      refine WO.nil ?_
      refine WC.ret ?_
      refine KX.seq_r ?_
      obtain rfl := Option.some.inj h
      refine KB.ret (vs := [(.int .i64 (-1))]) (res_tmp rfl res_nil) (fl_cons' rfl rfl) ?_
      exact rfl
  · refine WC.condF rfl hc14 ?_
    refine WC.skip ?_
    refine KX.seq_n ?_
    refine WC.seq ?_
    refine WC.seqR ?_
    refine WO.step (v := (.bool y2)) rfl (nz rfl rfl) ?_
    refine WO.nil ?_
    rcases iteS h with ⟨hc13, h⟩ | ⟨hc13, h⟩
    · refine WC.condT rfl hc13 ?_
      refine WC.seqR ?_
      refine WO.step (v := (.int .i64 1)) rfl (nz rfl rfl) ?_
      refine WO.nil ?_
      refine WC.ret ?_
      refine KX.seq_r ?_
      obtain rfl := Option.some.inj h
      refine KB.ret (vs := [(.int .i64 1)]) (res_tmp rfl res_nil) (fl_cons' rfl rfl) ?_
      exact rfl
    · refine WC.condF rfl hc13 ?_
      refine WC.skip ?_
      refine KX.seq_n ?_
      refine WC.seq ?_
      refine WC.seqR ?_
      refine WO.step (v := (.int .i64 a0)) rfl (nz rfl rfl) ?_
      refine WO.step (v := (.int .i64 a1)) rfl (nz rfl rfl) ?_
      refine WO.step (v := (.bool (decide (a0 < a1)))) rfl (nz rfl rfl) ?_
      refine WO.nil ?_
      rcases iteS h with ⟨hc12, h⟩ | ⟨hc12, h⟩
      · refine WC.condT rfl hc12 ?_
        refine WC.seqR ?_
        refine WO.step (v := (.int .i64 (-1))) rfl (nz rfl rfl) ?_
        refine WO.nil ?_
        refine WC.ret ?_
        refine KX.seq_r ?_
        obtain rfl := Option.some.inj h
        refine KB.ret (vs := [(.int .i64 (-1))]) (res_tmp rfl res_nil) (fl_cons' rfl rfl) ?_
        exact rfl
      · refine WC.condF rfl hc12 ?_
        refine WC.skip ?_
        refine KX.seq_n ?_
        refine WC.seq ?_
        refine WC.seqR ?_
        refine WO.step (v := (.int .i64 a0)) rfl (nz rfl rfl) ?_
        refine WO.step (v := (.int .i64 a1)) rfl (nz rfl rfl) ?_
        refine WO.step (v := (.bool (decide (a0 > a1)))) rfl (nz rfl rfl) ?_
        refine WO.nil ?_
        rcases iteS h with ⟨hc11, h⟩ | ⟨hc11, h⟩
        · refine WC.condT rfl hc11 ?_
          refine WC.seqR ?_
          refine WO.step (v := (.int .i64 1)) rfl (nz rfl rfl) ?_
          refine WO.nil ?_
          refine WC.ret ?_
          refine KX.seq_r ?_
          obtain rfl := Option.some.inj h
          refine KB.ret (vs := [(.int .i64 1)]) (res_tmp rfl res_nil) (fl_cons' rfl rfl) ?_
          exact rfl
        · refine WC.condF rfl hc11 ?_
          refine WC.skip ?_
          refine KX.seq_n ?_
          refine WC.seqR ?_
          refine WO.step (v := (.int .i64 0)) rfl (nz rfl rfl) ?_
          refine WO.nil ?_
          refine WC.ret ?_
          obtain rfl := Option.some.inj h
          refine KB.ret (vs := [(.int .i64 0)]) (res_tmp rfl res_nil) (fl_cons' rfl rfl) ?_
          exact rfl
-- 59 cmp.Or[int]
def F59_L0 (k : Nat) (a22 : Sl Int) (a23 : Int) : Nat → Int → Option (Out Int Int)
  | 0, _ => none
  | n + 1, x24 =>
    if decide (x24 < a23) then
    Option.bind (Sl.at? a22 x24) fun y29 =>
    if y29 != 0 then
    some (Out.ret y29)
    else
    F59_L0 k a22 a23 n (ad .i64 x24 1)
    else
    some (Out.brk x24)
/-- cmp.Or[int] -/
def F59 (k : Nat) (a0 : Sl Int) : Option Int :=
  Option.bind (F59_L0 k a0 (Sl.len a0) k 0) fun y33 =>
  match y33 with
  | .ret y33r => some y33r
  | .brk y33b =>
  some 0
theorem l59_L0 {k : Nat} {a22 : Sl Int} {a23 : Int} {S0 : List SObj} {R : List Nat} {K : KX}  {o : Out Int Int}
    (hret : ∀ r : Int, o = .ret r → ∀ {σ' : Nat → PV} {S' : List SObj}, Known [(2, (.int .i64 r))] σ' → Hp S0 R S' [] [] [] → K .ret σ' S' false)
    (hbrk : ∀ y : Int, o = .brk y → ∀ {σ' : Nat → PV} {S' : List SObj}, Known [(3, (.int .i64 0))] σ' → Hp S0 R S' [] [] [] → K (.exit 0) σ' S' false) :
    ∀ {n : Nat} {x24 : Int}, F59_L0 k a22 a23 n x24 = some o → ∀ {σ : Nat → PV} {S : List SObj}, Known [(3, (.int .i64 0)), (6, (encSl (eI .i64) a22)), (7, (.int .i64 a23)), (8, (.int .i64 x24))] σ → Hp S0 R S [] [] [] → WC env ⟨18, S0.length⟩ (.loop pc59L0) σ S false K := by
  intro n
  induction n with
  | zero => intro _ h; cases h
  | succ n ih =>
    intro x24 h σ S  hk H
    rw [F59_L0] at h
    refine WC.loop ?_
    refine WC.of_known hk ?_
    refine WC.seqR ?_
    refine WO.step (v := (.bool (decide (x24 < a23)))) rfl (nz rfl rfl) ?_
    refine WO.nil ?_
    refine WC.seq ?_
    rcases iteS h with ⟨hc32, h⟩ | ⟨hc32, h⟩
    · refine WC.condT rfl hc32 ?_
      refine WC.skip ?_
      refine KX.seq_n ?_
      refine WC.seq ?_
      refine WC.block ?_
      refine WC.seqR ?_
      obtain ⟨y29, hy29, h⟩ := bindS h
      refine WO.step (v := (.iptr [(.int .i64 y29)] 0)) rfl (nz rfl (stp_idxAddr rfl (isSl_enc _ _) rfl rfl rfl hy29 rfl rfl)) ?_
      refine WO.step (v := (.int .i64 y29)) rfl (nz rfl rfl) ?_
      refine WO.step (v := (.int .i64 y29)) rfl (nz rfl rfl) ?_
      refine WO.nil ?_
      refine WC.seqR ?_
      refine WO.step (v := (.int .i64 y29)) rfl (nz rfl rfl) ?_
      refine WO.step (v := (.int .i64 0)) rfl (nz rfl rfl) ?_
      refine WO.step (v := (.bool (y29 != 0))) rfl (nz rfl rfl) ?_
      refine WO.nil ?_
      rcases iteS h with ⟨hc31, h⟩ | ⟨hc31, h⟩
      · refine WC.condT rfl hc31 ?_
        refine WC.seqR ?_
        refine WO.step (v := (.int .i64 y29)) rfl (nz rfl rfl) ?_
        refine WO.step (v := (.int .i64 y29)) rfl (nz rfl rfl) ?_
        refine WO.nil ?_
        refine WC.ret ?_
        refine KX.block_r ?_
        refine KX.seq_r ?_
        refine KX.seq_r ?_
        obtain rfl := Option.some.inj h
        exact hret _ rfl (known_cons rfl known_nil) (H.sub .slnil .slnil .slnil)
      · refine WC.condF rfl hc31 ?_
        refine WC.skip ?_
        refine KX.block_n ?_
        refine KX.seq_n ?_
        refine WC.region ?_
        refine WO.step (v := (.int .i64 (ad .i64 x24 1))) rfl (nz rfl rfl) ?_
        refine WO.step (v := (.int .i64 (ad .i64 x24 1))) rfl (nz rfl rfl) ?_
        refine WO.nil ?_
        refine KX.seq_n ?_
        exact ih h  (known_cons rfl (known_cons rfl (known_cons rfl (known_cons rfl known_nil)))) (H.sub .slnil .slnil .slnil)
    · refine WC.condF rfl hc32 ?_
      refine WC.exit ?_
      refine KX.seq_x ?_
      refine KX.seq_x ?_
      obtain rfl := Option.some.inj h
      exact hbrk _ rfl  (known_cons rfl known_nil) (H.sub .slnil .slnil .slnil)
theorem s59 : ∀ k : Nat, ∀ {a0 : Sl Int} {r : Int}, F59 k a0 = some r → ∀ {vs : List PV}, vs.map PV.strip = [(encSl (eI .i64) a0)] → ∀ S : List SObj, evw env 59 vs S = some ((.int .i64 r), S, false) := by
  intro k a0 r h vs ha S
  unfold F59 at h
  refine evw_pureW (pf := fn59) rfl rfl ha (Nat.le_of_ble_eq_true rfl) (by simp [PV.clean, cleanL, clean_encSl (clean_eI .i64)]) rfl ?_
  refine WB.of (pf := fn59) rfl ?_
  have H := Hp.start []
  refine WC.seqR ?_
  refine WO.step (v := (.int .i64 0)) rfl (nz rfl rfl) ?_
  refine WO.nil ?_
  refine WC.seqR ?_
  refine WO.step (v := (.int .i64 0)) rfl (nz rfl rfl) ?_
  refine WO.nil ?_
  refine WC.seq ?_
  refine WC.seqR ?_
  refine WO.step (v := (encSl (eI .i64) a0)) rfl (nz rfl rfl) ?_
  refine WO.step (v := (.int .i64 (Sl.len a0))) rfl (nz rfl (stp_len rfl (isSl_enc _ _) rfl)) ?_
  refine WO.step (v := (.int .i64 0)) rfl (nz rfl rfl) ?_
  refine WO.nil ?_
  obtain ⟨y33, hy33, hOy33⟩ := bindS h
  refine WC.block ?_
  refine l59_L0 ?_ ?_ hy33  (known_cons rfl (known_cons rfl (known_cons rfl (known_cons rfl known_nil)))) (H.sub .slnil .slnil .slnil)
  · intro y33r he σ S  hk H; subst he; replace h := hOy33; dsimp only at h
    refine KX.of_known hk ?_
    refine KX.block_r ?_
    refine KX.seq_r ?_
    obtain rfl := Option.some.inj h
    refine KB.ret (vs := [(.int .i64 y33r)]) (res_tmp rfl res_nil) (fl_cons' rfl rfl) ?_
    exact rfl
  · intro y33b he σ S  hk H; subst he; replace h := hOy33; dsimp only at h
    refine KX.of_known hk ?_
    refine KX.block_x ?_
    refine KX.seq_n ?_
    refine WC.seqR ?_
    refine WO.step (v := (.int .i64 0)) rfl (nz rfl rfl) ?_
    refine WO.step (v := (.int .i64 0)) rfl (nz rfl rfl) ?_
    refine WO.nil ?_
    refine WC.ret ?_
    obtain rfl := Option.some.inj h
    refine KB.ret (vs := [(.int .i64 0)]) (res_tmp rfl res_nil) (fl_cons' rfl rfl) ?_
    exact rfl
-- 25 prefect/csn.Cmp
/-- prefect/csn.Cmp -/
def F25 (k : Nat) (a0 : Api_CSN) (a1 : Api_CSN) : Option Int :=
  Option.bind (F60 k a0.Time a1.Time) fun y3 =>
  Option.bind (F61 k a0.Seq a1.Seq) fun y4 =>
  Option.bind (F61 k a0.Rep a1.Rep) fun y5 =>
  Option.bind (F59 k (some [y3, y4, y5])) fun y7 =>
  some y7
theorem s25 : ∀ k : Nat, ∀ {a0 : Api_CSN} {a1 : Api_CSN} {r : Int}, F25 k a0 a1 = some r → ∀ {vs : List PV}, vs.map PV.strip = [(.agg [(.int .i64 a0.Time), (.int .i64 a0.Seq), (.int .i64 a0.Rep)]), (.agg [(.int .i64 a1.Time), (.int .i64 a1.Seq), (.int .i64 a1.Rep)])] → ∀ S : List SObj, evw env 25 vs S = some ((.int .i64 r), S, false) := by
  intro k a0 a1 r h vs ha S
  unfold F25 at h
  refine evw_pureW (pf := fn25) rfl rfl ha (Nat.le_of_ble_eq_true rfl) rfl rfl ?_
  refine WB.of (pf := fn25) rfl ?_
  have H := Hp.start []
  refine WC.seqR ?_
  refine WO.box' rfl rfl rfl rfl rfl H ?_
  intro i1 S hi1 H
  refine WO.box' rfl rfl rfl rfl rfl H ?_
  intro i2 S hi2 H
  refine WO.step (v := (.int .i64 0)) rfl (nz rfl rfl) ?_
  refine WO.nil ?_
  refine WC.seq ?_
  refine WC.draw ?_
  refine WH.step (v := (.ptr i1 0)) rfl (nz rfl rfl) rfl rfl ?_
  refine WH.step (v := (.int .i64 a0.Time)) rfl (nz rfl (stp_load rfl (H.get 1 rfl) rfl)) rfl rfl ?_
  refine WH.step (v := (.ptr i2 0)) rfl (nz rfl rfl) rfl rfl ?_
  refine WH.step (v := (.int .i64 a1.Time)) rfl (nz rfl (stp_load rfl (H.get 0 rfl) rfl)) rfl rfl ?_
  obtain ⟨y3, hy3, h⟩ := bindS h
  refine WH.step (v := (.int .i64 y3)) rfl (nz rfl (stp_call (vs := [(.int .i64 a0.Time), (.int .i64 a1.Time)]) rfl rfl (s60 _ hy3 rfl _))) rfl rfl ?_
  refine WH.step (v := (.ptr i1 1)) rfl (nz rfl rfl) rfl rfl ?_
  refine WH.step (v := (.int .i64 a0.Seq)) rfl (nz rfl (stp_load rfl (H.get 1 rfl) rfl)) rfl rfl ?_
  refine WH.step (v := (.ptr i2 1)) rfl (nz rfl rfl) rfl rfl ?_
  refine WH.step (v := (.int .i64 a1.Seq)) rfl (nz rfl (stp_load rfl (H.get 0 rfl) rfl)) rfl rfl ?_
  obtain ⟨y4, hy4, h⟩ := bindS h
  refine WH.step (v := (.int .i64 y4)) rfl (nz rfl (stp_call (vs := [(.int .i64 a0.Seq), (.int .i64 a1.Seq)]) rfl rfl (s61 _ hy4 rfl _))) rfl rfl ?_
  refine WH.step (v := (.ptr i1 2)) rfl (nz rfl rfl) rfl rfl ?_
  refine WH.step (v := (.int .i64 a0.Rep)) rfl (nz rfl (stp_load rfl (H.get 1 rfl) rfl)) rfl rfl ?_
  refine WH.step (v := (.ptr i2 2)) rfl (nz rfl rfl) rfl rfl ?_
  refine WH.step (v := (.int .i64 a1.Rep)) rfl (nz rfl (stp_load rfl (H.get 0 rfl) rfl)) rfl rfl ?_
  refine WH.nil ?_
  obtain ⟨y5, hy5, h⟩ := bindS h
  refine WO.step (v := (.int .i64 y5)) rfl (nz rfl (stp_call (vs := [(.int .i64 a0.Rep), (.int .i64 a1.Rep)]) rfl rfl (s61 _ hy5 rfl _))) ?_
  refine WO.step rfl (nz rfl (stp_buildSlice (ys := [y3, y4, y5]) (f := (eI .i64)) (parts := [(0, (.int .i64 y3)), (1, (.int .i64 y4)), (2, (.int .i64 y5))]) rfl rfl rfl rfl rfl rfl (fc ⟨rfl, rfl⟩ (fc ⟨rfl, rfl⟩ (fc ⟨rfl, rfl⟩ (fun p hp => nomatch hp)))) rfl)) ?_
  have hv6 : IsSl (eI .i64) (some [y3, y4, y5]) _ := ⟨.full, rfl⟩
  obtain ⟨y7, hy7, h⟩ := bindS h
  refine WO.step (v := (.int .i64 y7)) rfl (nz (fz_tmp' hv6.frz rfl) (stp_call (vs := [(.lst (List.map (eI .i64) [y3, y4, y5]) .full)]) rfl rfl (s59 _ hy7 (by simp only [hv6.strip, st_lst, encSl_some, eI, eB, eS, List.map_cons, List.map_nil, tupled]) _))) ?_
  refine WO.step (v := (.int .i64 y7)) rfl (nz rfl rfl) ?_
  refine WO.nil ?_
  refine KX.seq_n ?_
  refine WC.ret ?_
  obtain rfl := Option.some.inj h
  refine KB.ret (vs := [(.int .i64 y7)]) (res_tmp rfl res_nil) (fl_cons' rfl rfl) ?_
  exact rfl
-- 73 prefect/csn.Is
/-- prefect/csn.Is -/
def F73 (k : Nat) (a0 : Api_CSN) : Option Bool :=
  some ((((((decide (a0.Time ≥ 0)) && (decide (a0.Time ≤ 1099511627776))) && (decide (a0.Seq ≥ 0))) && (decide (a0.Seq ≤ 65535))) && (decide (a0.Rep ≥ 0))) && (decide (a0.Rep < 6)))
theorem s73 : ∀ k : Nat, ∀ {a0 : Api_CSN} {r : Bool}, F73 k a0 = some r → ∀ {vs : List PV}, vs.map PV.strip = [(.agg [(.int .i64 a0.Time), (.int .i64 a0.Seq), (.int .i64 a0.Rep)])] → ∀ S : List SObj, evw env 73 vs S = some ((.bool r), S, false) := by
  intro k a0 r h vs ha S
  unfold F73 at h
  refine evw_pureW (pf := fn73) rfl rfl ha (Nat.le_of_ble_eq_true rfl) rfl rfl ?_
  refine WB.of (pf := fn73) rfl ?_
  have H := Hp.start []
  refine WC.seqR ?_
  refine WO.box' rfl rfl rfl rfl rfl H ?_
  intro i1 S hi1 H
  refine WO.step (v := (.bool false)) rfl (nz rfl rfl) ?_
  refine WO.nil ?_
  refine WC.seqR ?_
  refine WO.step (v := (.ptr i1 0)) rfl (nz rfl rfl) ?_
  refine WO.step (v := (.int .i64 a0.Time)) rfl (nz rfl (stp_load rfl (H.get 0 rfl) rfl)) ?_
  refine WO.step (v := (.bool (decide (a0.Time ≥ 0)))) rfl (nz rfl rfl) ?_
  refine WO.step (v := (.bool (decide (a0.Time ≥ 0)))) rfl (nz rfl rfl) ?_
  refine WO.split 4 (fun σ' S' e' => Known ([(1, (.ptr i1 0)), (10, (.bool ((decide (a0.Time ≥ 0)) && (decide (a0.Time ≤ 1099511627776)))))]) σ' ∧ Hp [] [] S' [(i1, .cells [(.int .i64 a0.Time), (.int .i64 a0.Seq), (.int .i64 a0.Rep)])] [] [] ∧ e' = false) ?_ ?_
  · revert H
    cases hc2 : (decide (a0.Time ≥ 0))
    · intro H
      refine WO.by rfl rfl rfl ?_
      refine WO.by rfl rfl rfl ?_
      refine WO.by rfl rfl rfl ?_
      refine WO.step (v := (.bool false)) rfl (nz rfl rfl) ?_
      refine WO.nil ?_
      exact ⟨(known_cons rfl (known_cons rfl known_nil)), H, rfl⟩
    · intro H
      refine WO.go0 rfl rfl ?_
      refine WO.step (v := (.ptr i1 0)) rfl (nz rfl rfl) ?_
      refine WO.go0 rfl rfl ?_
      refine WO.step (v := (.int .i64 a0.Time)) rfl (nz rfl (stp_load rfl (H.get 0 rfl) rfl)) ?_
      refine WO.go0 rfl rfl ?_
      refine WO.step (v := (.bool (decide (a0.Time ≤ 1099511627776)))) rfl (nz rfl rfl) ?_
      refine WO.step (v := (.bool (decide (a0.Time ≤ 1099511627776)))) rfl (nz rfl rfl) ?_
      refine WO.nil ?_
      exact ⟨(known_cons rfl (known_cons rfl known_nil)), H, rfl⟩
  · rintro σ S e ⟨hk, H, rfl⟩
    refine WO.of_known hk ?_
    refine WO.step (v := (.bool ((decide (a0.Time ≥ 0)) && (decide (a0.Time ≤ 1099511627776))))) rfl (nz rfl rfl) ?_
    refine WO.split 4 (fun σ' S' e' => Known ([(1, (.ptr i1 0)), (15, (.bool (((decide (a0.Time ≥ 0)) && (decide (a0.Time ≤ 1099511627776))) && (decide (a0.Seq ≥ 0)))))]) σ' ∧ Hp [] [] S' [(i1, .cells [(.int .i64 a0.Time), (.int .i64 a0.Seq), (.int .i64 a0.Rep)])] [] [] ∧ e' = false) ?_ ?_
    · revert H
      cases hc3 : ((decide (a0.Time ≥ 0)) && (decide (a0.Time ≤ 1099511627776)))
      · intro H
        refine WO.by rfl rfl rfl ?_
        refine WO.by rfl rfl rfl ?_
        refine WO.by rfl rfl rfl ?_
        refine WO.step (v := (.bool false)) rfl (nz rfl rfl) ?_
        refine WO.nil ?_
        exact ⟨(known_cons rfl (known_cons rfl known_nil)), H, rfl⟩
      · intro H
        refine WO.go0 rfl rfl ?_
        refine WO.step (v := (.ptr i1 1)) rfl (nz rfl rfl) ?_
        refine WO.go0 rfl rfl ?_
        refine WO.step (v := (.int .i64 a0.Seq)) rfl (nz rfl (stp_load rfl (H.get 0 rfl) rfl)) ?_
        refine WO.go0 rfl rfl ?_
        refine WO.step (v := (.bool (decide (a0.Seq ≥ 0)))) rfl (nz rfl rfl) ?_
        refine WO.step (v := (.bool (decide (a0.Seq ≥ 0)))) rfl (nz rfl rfl) ?_
        refine WO.nil ?_
        exact ⟨(known_cons rfl (known_cons rfl known_nil)), H, rfl⟩
    · rintro σ S e ⟨hk, H, rfl⟩
      refine WO.of_known hk ?_
      refine WO.step (v := (.bool (((decide (a0.Time ≥ 0)) && (decide (a0.Time ≤ 1099511627776))) && (decide (a0.Seq ≥ 0))))) rfl (nz rfl rfl) ?_
      refine WO.split 4 (fun σ' S' e' => Known ([(1, (.ptr i1 0)), (20, (.bool ((((decide (a0.Time ≥ 0)) && (decide (a0.Time ≤ 1099511627776))) && (decide (a0.Seq ≥ 0))) && (decide (a0.Seq ≤ 65535)))))]) σ' ∧ Hp [] [] S' [(i1, .cells [(.int .i64 a0.Time), (.int .i64 a0.Seq), (.int .i64 a0.Rep)])] [] [] ∧ e' = false) ?_ ?_
      · revert H
        cases hc4 : (((decide (a0.Time ≥ 0)) && (decide (a0.Time ≤ 1099511627776))) && (decide (a0.Seq ≥ 0)))
        · intro H
          refine WO.by rfl rfl rfl ?_
          refine WO.by rfl rfl rfl ?_
          refine WO.by rfl rfl rfl ?_
          refine WO.step (v := (.bool false)) rfl (nz rfl rfl) ?_
          refine WO.nil ?_
          exact ⟨(known_cons rfl (known_cons rfl known_nil)), H, rfl⟩
        · intro H
          refine WO.go0 rfl rfl ?_
          refine WO.step (v := (.ptr i1 1)) rfl (nz rfl rfl) ?_
          refine WO.go0 rfl rfl ?_
          refine WO.step (v := (.int .i64 a0.Seq)) rfl (nz rfl (stp_load rfl (H.get 0 rfl) rfl)) ?_
          refine WO.go0 rfl rfl ?_
          refine WO.step (v := (.bool (decide (a0.Seq ≤ 65535)))) rfl (nz rfl rfl) ?_
          refine WO.step (v := (.bool (decide (a0.Seq ≤ 65535)))) rfl (nz rfl rfl) ?_
          refine WO.nil ?_
          exact ⟨(known_cons rfl (known_cons rfl known_nil)), H, rfl⟩
      · rintro σ S e ⟨hk, H, rfl⟩
        refine WO.of_known hk ?_
        refine WO.step (v := (.bool ((((decide (a0.Time ≥ 0)) && (decide (a0.Time ≤ 1099511627776))) && (decide (a0.Seq ≥ 0))) && (decide (a0.Seq ≤ 65535))))) rfl (nz rfl rfl) ?_
        refine WO.split 4 (fun σ' S' e' => Known ([(1, (.ptr i1 0)), (25, (.bool (((((decide (a0.Time ≥ 0)) && (decide (a0.Time ≤ 1099511627776))) && (decide (a0.Seq ≥ 0))) && (decide (a0.Seq ≤ 65535))) && (decide (a0.Rep ≥ 0)))))]) σ' ∧ Hp [] [] S' [(i1, .cells [(.int .i64 a0.Time), (.int .i64 a0.Seq), (.int .i64 a0.Rep)])] [] [] ∧ e' = false) ?_ ?_
        · revert H
          cases hc5 : ((((decide (a0.Time ≥ 0)) && (decide (a0.Time ≤ 1099511627776))) && (decide (a0.Seq ≥ 0))) && (decide (a0.Seq ≤ 65535)))
          · intro H
            refine WO.by rfl rfl rfl ?_
            refine WO.by rfl rfl rfl ?_
            refine WO.by rfl rfl rfl ?_
            refine WO.step (v := (.bool false)) rfl (nz rfl rfl) ?_
            refine WO.nil ?_
            exact ⟨(known_cons rfl (known_cons rfl known_nil)), H, rfl⟩
          · intro H
            refine WO.go0 rfl rfl ?_
            refine WO.step (v := (.ptr i1 2)) rfl (nz rfl rfl) ?_
            refine WO.go0 rfl rfl ?_
            refine WO.step (v := (.int .i64 a0.Rep)) rfl (nz rfl (stp_load rfl (H.get 0 rfl) rfl)) ?_
            refine WO.go0 rfl rfl ?_
            refine WO.step (v := (.bool (decide (a0.Rep ≥ 0)))) rfl (nz rfl rfl) ?_
            refine WO.step (v := (.bool (decide (a0.Rep ≥ 0)))) rfl (nz rfl rfl) ?_
            refine WO.nil ?_
            exact ⟨(known_cons rfl (known_cons rfl known_nil)), H, rfl⟩
        · rintro σ S e ⟨hk, H, rfl⟩
          refine WO.of_known hk ?_
          refine WO.step (v := (.bool (((((decide (a0.Time ≥ 0)) && (decide (a0.Time ≤ 1099511627776))) && (decide (a0.Seq ≥ 0))) && (decide (a0.Seq ≤ 65535))) && (decide (a0.Rep ≥ 0))))) rfl (nz rfl rfl) ?_
          refine WO.split 4 (fun σ' S' e' => Known ([(30, (.bool ((((((decide (a0.Time ≥ 0)) && (decide (a0.Time ≤ 1099511627776))) && (decide (a0.Seq ≥ 0))) && (decide (a0.Seq ≤ 65535))) && (decide (a0.Rep ≥ 0))) && (decide (a0.Rep < 6)))))]) σ' ∧ Hp [] [] S' [(i1, .cells [(.int .i64 a0.Time), (.int .i64 a0.Seq), (.int .i64 a0.Rep)])] [] [] ∧ e' = false) ?_ ?_
          · revert H
            cases hc6 : (((((decide (a0.Time ≥ 0)) && (decide (a0.Time ≤ 1099511627776))) && (decide (a0.Seq ≥ 0))) && (decide (a0.Seq ≤ 65535))) && (decide (a0.Rep ≥ 0)))
            · intro H
              refine WO.by rfl rfl rfl ?_
              refine WO.by rfl rfl rfl ?_
              refine WO.by rfl rfl rfl ?_
              refine WO.step (v := (.bool false)) rfl (nz rfl rfl) ?_
              refine WO.nil ?_
              exact ⟨(known_cons rfl known_nil), H, rfl⟩
            · intro H
              refine WO.go0 rfl rfl ?_
              refine WO.step (v := (.ptr i1 2)) rfl (nz rfl rfl) ?_
              refine WO.go0 rfl rfl ?_
              refine WO.step (v := (.int .i64 a0.Rep)) rfl (nz rfl (stp_load rfl (H.get 0 rfl) rfl)) ?_
              refine WO.go0 rfl rfl ?_
              refine WO.step (v := (.bool (decide (a0.Rep < 6)))) rfl (nz rfl rfl) ?_
              refine WO.step (v := (.bool (decide (a0.Rep < 6)))) rfl (nz rfl rfl) ?_
              refine WO.nil ?_
              exact ⟨(known_cons rfl known_nil), H, rfl⟩
          · rintro σ S e ⟨hk, H, rfl⟩
            refine WO.of_known hk ?_
            refine WO.step (v := (.bool ((((((decide (a0.Time ≥ 0)) && (decide (a0.Time ≤ 1099511627776))) && (decide (a0.Seq ≥ 0))) && (decide (a0.Seq ≤ 65535))) && (decide (a0.Rep ≥ 0))) && (decide (a0.Rep < 6))))) rfl (nz rfl rfl) ?_
            refine WO.nil ?_
            refine WC.ret ?_
            obtain rfl := Option.some.inj h
            refine KB.ret (vs := [(.bool ((((((decide (a0.Time ≥ 0)) && (decide (a0.Time ≤ 1099511627776))) && (decide (a0.Seq ≥ 0))) && (decide (a0.Seq ≤ 65535))) && (decide (a0.Rep ≥ 0))) && (decide (a0.Rep < 6))))]) (res_tmp rfl res_nil) (fl_cons' rfl rfl) ?_
            exact rfl
-- 24 (*prefect/csn.Gen).Next
/-- (*prefect/csn.Gen).Next -/
def F24 (k : Nat) (a0 : Csn_Gen) (a1 : Int) : Option (Csn_Gen × Api_CSN × Int) :=
  Option.bind (if (decide (a1 ≤ a0.last.Time)) && (decide ((ad .i64 a0.last.Seq 1) > 65535)) then
  some (Api_CSN.mk (ad .i64 a0.last.Time 1) 0 a0.last.Rep)
  else
  if decide (a1 > a0.last.Time) then
  some (Api_CSN.mk a1 0 a0.last.Rep)
  else
  some (Api_CSN.mk a0.last.Time (ad .i64 a0.last.Seq 1) a0.last.Rep)) fun y43 =>
  if decide (y43.Time > 1099511627776) then
  some (a0, (Api_CSN.mk 0 0 0), 19)
  else
  some ((Csn_Gen.mk y43), y43, 0)
theorem s24 : ∀ k : Nat, ∀ {a0 : Csn_Gen} {a1 : Int} {r : Csn_Gen × Api_CSN × Int}, F24 k a0 a1 = some r → ∀ {id : Nat} {S : List SObj}, S[id]? = some (.cells [(.int .i64 a0.last.Time), (.int .i64 a0.last.Seq), (.int .i64 a0.last.Rep)]) → evw env 24 [.ptr id 0, (.int .i64 a1)] S = some ((.tup [(.agg [(.int .i64 r.2.1.Time), (.int .i64 r.2.1.Seq), (.int .i64 r.2.1.Rep)]), (.int .i64 r.2.2)]), S.set id (.cells [(.int .i64 r.1.last.Time), (.int .i64 r.1.last.Seq), (.int .i64 r.1.last.Rep)]), false) := by
  intro k a0 a1 r h id S0 hS
  unfold F24 at h
  refine evw_recvW (pf := fn24) rfl rfl (Nat.le_of_ble_eq_true rfl) rfl ?_
  refine WB.of (pf := fn24) rfl ?_
  have H := Hp.start1 hS rfl
  refine WC.seqR ?_
  refine WO.alloc' (ti := ty31) rfl rfl rfl rfl H ?_
  intro i1 S hi1 H
  refine WO.step (v := (.int .i64 0)) rfl (nz rfl rfl) ?_
  refine WO.nil ?_
  refine WC.seqR ?_
  refine WO.step (v := (.ptr id 0)) rfl (nz rfl rfl) ?_
  refine WO.step (v := (.ptr id 0)) rfl (nz rfl rfl) ?_
  refine WO.step (v := (.ptr id 0)) rfl (nz rfl rfl) ?_
  refine WO.step (v := (.agg [(.int .i64 a0.last.Time), (.int .i64 a0.last.Seq), (.int .i64 a0.last.Rep)])) rfl (nz rfl (stp_load rfl (H.get 1 rfl) rfl)) ?_
  refine WO.alloc' (ti := ty31) rfl rfl rfl rfl H ?_
  intro i2 S hi2 H
  refine WO.store 0 rfl rfl H rfl rfl rfl rfl rfl rfl rfl (Nat.le_of_ble_eq_true rfl) rfl (own_e hi2) ?_
  intro S H
  replace H : Hp S0 [id] _ [(i2, .cells [(.int .i64 a0.last.Time), (.int .i64 a0.last.Seq), (.int .i64 a0.last.Rep)]), (i1, .cells [(.int .i64 0), (.int .i64 0), (.int .i64 0)]), (id, .cells [(.int .i64 a0.last.Time), (.int .i64 a0.last.Seq), (.int .i64 a0.last.Rep)])] [] [] := H
  refine WO.nil ?_
  refine WC.seqR ?_
  refine WO.step (v := (.ptr i2 1)) rfl (nz rfl rfl) ?_
  refine WO.step (v := (.int .i64 a0.last.Seq)) rfl (nz rfl (stp_load rfl (H.get 0 rfl) rfl)) ?_
  refine WO.step (v := (.int .i64 (ad .i64 a0.last.Seq 1))) rfl (nz rfl rfl) ?_
  refine WO.step (v := (.ptr i2 1)) rfl (nz rfl rfl) ?_
  refine WO.store 0 rfl rfl H rfl rfl rfl rfl rfl rfl rfl (Nat.le_of_ble_eq_true rfl) rfl (own_e hi2) ?_
  intro S H
  replace H : Hp S0 [id] _ [(i2, .cells [(.int .i64 a0.last.Time), (.int .i64 (ad .i64 a0.last.Seq 1)), (.int .i64 a0.last.Rep)]), (i1, .cells [(.int .i64 0), (.int .i64 0), (.int .i64 0)]), (id, .cells [(.int .i64 a0.last.Time), (.int .i64 a0.last.Seq), (.int .i64 a0.last.Rep)])] [] [] := H
  refine WO.nil ?_
  refine WC.seq ?_
  obtain ⟨y43, hy43, hOy43⟩ := bindS h
  refine WC.join (fun σ' S' e' => Known ([(0, (.ptr id 0)), (4, (.ptr i1 0)), (6, (.ptr i2 0))]) σ' ∧ Hp S0 [id] S' [(i2, .cells [(.int .i64 y43.Time), (.int .i64 y43.Seq), (.int .i64 y43.Rep)]), (i1, .cells [(.int .i64 0), (.int .i64 0), (.int .i64 0)]), (id, .cells [(.int .i64 a0.last.Time), (.int .i64 a0.last.Seq), (.int .i64 a0.last.Rep)])] [] [] ∧ e' = false) ?_ ?_
  · replace h := hy43
    refine WC.block ?_
    refine WC.seq ?_
    refine WC.block ?_
    refine WC.seq ?_
    refine WC.block ?_
    refine WC.seq ?_
    refine WC.seq ?_
    refine WC.seqR ?_
    refine WO.step (v := (.int .i64 a1)) rfl (nz rfl rfl) ?_
    refine WO.step (v := (.ptr id 0)) rfl (nz rfl rfl) ?_
    refine WO.step (v := (.ptr id 0)) rfl (nz rfl rfl) ?_
    refine WO.step (v := (.ptr id 0)) rfl (nz rfl rfl) ?_
    refine WO.step (v := (.ptr id 0)) rfl (nz rfl rfl) ?_
    refine WO.step (v := (.int .i64 a0.last.Time)) rfl (nz rfl (stp_load rfl (H.get 2 rfl) rfl)) ?_
    refine WO.step (v := (.bool (decide (a1 ≤ a0.last.Time)))) rfl (nz rfl rfl) ?_
    refine WO.step (v := (.bool (decide (a1 ≤ a0.last.Time)))) rfl (nz rfl rfl) ?_
    refine WO.split 4 (fun σ' S' e' => Known ([(0, (.ptr id 0)), (1, (.int .i64 a1)), (4, (.ptr i1 0)), (6, (.ptr i2 0)), (27, (.bool ((decide (a1 ≤ a0.last.Time)) && (decide ((ad .i64 a0.last.Seq 1) > 65535)))))]) σ' ∧ Hp S0 [id] S' [(i2, .cells [(.int .i64 a0.last.Time), (.int .i64 (ad .i64 a0.last.Seq 1)), (.int .i64 a0.last.Rep)]), (i1, .cells [(.int .i64 0), (.int .i64 0), (.int .i64 0)]), (id, .cells [(.int .i64 a0.last.Time), (.int .i64 a0.last.Seq), (.int .i64 a0.last.Rep)])] [] [] ∧ e' = false) ?_ ?_
    · revert H
      cases hc59 : (decide (a1 ≤ a0.last.Time))
      · intro H
        refine WO.by rfl rfl rfl ?_
        refine WO.by rfl rfl rfl ?_
        refine WO.by rfl rfl rfl ?_
        refine WO.step (v := (.bool false)) rfl (nz rfl rfl) ?_
        refine WO.nil ?_
        exact ⟨(known_cons rfl (known_cons rfl (known_cons rfl (known_cons rfl (known_cons rfl known_nil))))), H, rfl⟩
      · intro H
        refine WO.go0 rfl rfl ?_
        refine WO.step (v := (.ptr i2 1)) rfl (nz rfl rfl) ?_
        refine WO.go0 rfl rfl ?_
        refine WO.step (v := (.int .i64 (ad .i64 a0.last.Seq 1))) rfl (nz rfl (stp_load rfl (H.get 0 rfl) rfl)) ?_
        refine WO.go0 rfl rfl ?_
        refine WO.step (v := (.bool (decide ((ad .i64 a0.last.Seq 1) > 65535)))) rfl (nz rfl rfl) ?_
        refine WO.step (v := (.bool (decide ((ad .i64 a0.last.Seq 1) > 65535)))) rfl (nz rfl rfl) ?_
        refine WO.nil ?_
        exact ⟨(known_cons rfl (known_cons rfl (known_cons rfl (known_cons rfl (known_cons rfl known_nil))))), H, rfl⟩
    · rintro σ S e ⟨hk, H, rfl⟩
      refine WO.of_known hk ?_
      refine WO.step (v := (.bool ((decide (a1 ≤ a0.last.Time)) && (decide ((ad .i64 a0.last.Seq 1) > 65535))))) rfl (nz rfl rfl) ?_
      refine WO.nil ?_
      rcases iteS h with ⟨hc63, h⟩ | ⟨hc63, h⟩
      · refine WC.condT rfl hc63 ?_
        refine WC.exit ?_
        refine KX.seq_x ?_
        refine KX.seq_x ?_
        refine KX.block_x ?_
        refine KX.seq_n ?_
        refine WC.region ?_
        refine WO.step (v := (.ptr id 0)) rfl (nz rfl rfl) ?_
        refine WO.step (v := (.ptr id 0)) rfl (nz rfl rfl) ?_
        refine WO.step (v := (.ptr id 0)) rfl (nz rfl rfl) ?_
        refine WO.step (v := (.ptr id 0)) rfl (nz rfl rfl) ?_
        refine WO.step (v := (.int .i64 a0.last.Time)) rfl (nz rfl (stp_load rfl (H.get 2 rfl) rfl)) ?_
        refine WO.step (v := (.int .i64 (ad .i64 a0.last.Time 1))) rfl (nz rfl rfl) ?_
        refine WO.step (v := (.int .i64 (ad .i64 a0.last.Time 1))) rfl (nz rfl rfl) ?_
        refine WO.nil ?_
        refine KX.block_n ?_
        refine KX.seq_n ?_
        refine WC.seqR ?_
        refine WO.step (v := (.int .i64 (ad .i64 a0.last.Time 1))) rfl (nz rfl rfl) ?_
        refine WO.step (v := (.ptr i2 0)) rfl (nz rfl rfl) ?_
        refine WO.store 0 rfl rfl H rfl rfl rfl rfl rfl rfl rfl (Nat.le_of_ble_eq_true rfl) rfl (own_e hi2) ?_
        intro S H
        replace H : Hp S0 [id] _ [(i2, .cells [(.int .i64 (ad .i64 a0.last.Time 1)), (.int .i64 (ad .i64 a0.last.Seq 1)), (.int .i64 a0.last.Rep)]), (i1, .cells [(.int .i64 0), (.int .i64 0), (.int .i64 0)]), (id, .cells [(.int .i64 a0.last.Time), (.int .i64 a0.last.Seq), (.int .i64 a0.last.Rep)])] [] [] := H
        refine WO.step (v := (.ptr i2 1)) rfl (nz rfl rfl) ?_
        refine WO.store 0 rfl rfl H rfl rfl rfl rfl rfl rfl rfl (Nat.le_of_ble_eq_true rfl) rfl (own_e hi2) ?_
        intro S H
        replace H : Hp S0 [id] _ [(i2, .cells [(.int .i64 (ad .i64 a0.last.Time 1)), (.int .i64 0), (.int .i64 a0.last.Rep)]), (i1, .cells [(.int .i64 0), (.int .i64 0), (.int .i64 0)]), (id, .cells [(.int .i64 a0.last.Time), (.int .i64 a0.last.Seq), (.int .i64 a0.last.Rep)])] [] [] := H
        refine WO.nil ?_
        refine WC.exit ?_
        refine KX.block_x ?_
        refine KX.seq_n ?_
        obtain rfl := Option.some.inj h
        exact ⟨(known_cons rfl (known_cons rfl (known_cons rfl known_nil))), (H.sub (.cons_cons _ (.cons_cons _ (.cons_cons _ .slnil))) .slnil .slnil), rfl⟩
      · refine WC.condF rfl hc63 ?_
        refine WC.skip ?_
        refine KX.seq_n ?_
        refine WC.seqR ?_
        refine WO.step (v := (.int .i64 a1)) rfl (nz rfl rfl) ?_
        refine WO.step (v := (.ptr id 0)) rfl (nz rfl rfl) ?_
        refine WO.step (v := (.ptr id 0)) rfl (nz rfl rfl) ?_
        refine WO.step (v := (.ptr id 0)) rfl (nz rfl rfl) ?_
        refine WO.step (v := (.ptr id 0)) rfl (nz rfl rfl) ?_
        refine WO.step (v := (.int .i64 a0.last.Time)) rfl (nz rfl (stp_load rfl (H.get 2 rfl) rfl)) ?_
        refine WO.step (v := (.bool (decide (a1 > a0.last.Time)))) rfl (nz rfl rfl) ?_
        refine WO.step (v := (.bool (decide (a1 > a0.last.Time)))) rfl (nz rfl rfl) ?_
        refine WO.nil ?_
        rcases iteS h with ⟨hc62, h⟩ | ⟨hc62, h⟩
        · refine WC.condT rfl hc62 ?_
          refine WC.exit ?_
          refine KX.seq_x ?_
          refine KX.block_y rfl ?_
          refine KX.seq_x ?_
          refine KX.block_x ?_
          refine KX.seq_n ?_
          refine WC.seqR ?_
          refine WO.step (v := (.int .i64 a1)) rfl (nz rfl rfl) ?_
          refine WO.step (v := (.ptr i2 0)) rfl (nz rfl rfl) ?_
          refine WO.store 0 rfl rfl H rfl rfl rfl rfl rfl rfl rfl (Nat.le_of_ble_eq_true rfl) rfl (own_e hi2) ?_
          intro S H
          replace H : Hp S0 [id] _ [(i2, .cells [(.int .i64 a1), (.int .i64 (ad .i64 a0.last.Seq 1)), (.int .i64 a0.last.Rep)]), (i1, .cells [(.int .i64 0), (.int .i64 0), (.int .i64 0)]), (id, .cells [(.int .i64 a0.last.Time), (.int .i64 a0.last.Seq), (.int .i64 a0.last.Rep)])] [] [] := H
          refine WO.step (v := (.ptr i2 1)) rfl (nz rfl rfl) ?_
          refine WO.store 0 rfl rfl H rfl rfl rfl rfl rfl rfl rfl (Nat.le_of_ble_eq_true rfl) rfl (own_e hi2) ?_
          intro S H
          replace H : Hp S0 [id] _ [(i2, .cells [(.int .i64 a1), (.int .i64 0), (.int .i64 a0.last.Rep)]), (i1, .cells [(.int .i64 0), (.int .i64 0), (.int .i64 0)]), (id, .cells [(.int .i64 a0.last.Time), (.int .i64 a0.last.Seq), (.int .i64 a0.last.Rep)])] [] [] := H
          refine WO.nil ?_
          refine WC.exit ?_
          refine KX.block_x ?_
          refine KX.seq_n ?_
          obtain rfl := Option.some.inj h
          exact ⟨(known_cons rfl (known_cons rfl (known_cons rfl known_nil))), (H.sub (.cons_cons _ (.cons_cons _ (.cons_cons _ .slnil))) .slnil .slnil), rfl⟩
        · refine WC.condF rfl hc62 ?_
          refine WC.skip ?_
          refine KX.seq_n ?_
          refine WC.exit ?_
          refine KX.block_y rfl ?_
          refine KX.seq_x ?_
          refine KX.block_y rfl ?_
          refine KX.seq_x ?_
          refine KX.block_x ?_
          refine KX.seq_n ?_
          obtain rfl := Option.some.inj h
          exact ⟨(known_cons rfl (known_cons rfl (known_cons rfl known_nil))), (H.sub (.cons_cons _ (.cons_cons _ (.cons_cons _ .slnil))) .slnil .slnil), rfl⟩
  · rintro σ S e ⟨hk, H, rfl⟩
    replace h := hOy43
    refine KX.of_known hk ?_
    refine KX.seq_n ?_
    refine WC.seq ?_
    refine WC.seqR ?_
    refine WO.step (v := (.ptr i2 0)) rfl (nz rfl rfl) ?_
    refine WO.step (v := (.int .i64 y43.Time)) rfl (nz rfl (stp_load rfl (H.get 0 rfl) rfl)) ?_
    refine WO.step (v := (.bool (decide (y43.Time > 1099511627776)))) rfl (nz rfl rfl) ?_
    refine WO.nil ?_
    rcases iteS h with ⟨hc65, h⟩ | ⟨hc65, h⟩
    · refine WC.condT rfl hc65 ?_
      refine WC.seqR ?_
      refine WO.step (v := (.agg [(.int .i64 0), (.int .i64 0), (.int .i64 0)])) rfl (nz rfl (stp_build (ti := ty31) rfl rfl rfl rfl rfl rfl)) ?_
      refine WO.store 1 rfl rfl H rfl rfl rfl rfl rfl rfl rfl (Nat.le_of_ble_eq_true rfl) rfl (own_e hi1) ?_
      intro S H
      replace H : Hp S0 [id] _ [(i2, .cells [(.int .i64 y43.Time), (.int .i64 y43.Seq), (.int .i64 y43.Rep)]), (i1, .cells [(.int .i64 0), (.int .i64 0), (.int .i64 0)]), (id, .cells [(.int .i64 a0.last.Time), (.int .i64 a0.last.Seq), (.int .i64 a0.last.Rep)])] [] [] := H
      refine WO.step (v := (.int .i64 19)) rfl (nz rfl rfl) ?_
      refine WO.nil ?_
      refine WC.ret ?_
      refine KX.seq_r ?_
      obtain rfl := Option.some.inj h
      refine KB.ret (vs := [(.agg [(.int .i64 0), (.int .i64 0), (.int .i64 0)]), (.int .i64 19)]) (res_cell rfl (H.get 1 rfl) rfl (res_tmp rfl res_nil)) (fl_cons' rfl (fl_cons' rfl rfl)) ?_
      exact leave_hp hS H 2 rfl rfl rfl
    · refine WC.condF rfl hc65 ?_
      refine WC.skip ?_
      refine KX.seq_n ?_
      refine WC.seqR ?_
      refine WO.step (v := (.ptr id 0)) rfl (nz rfl rfl) ?_
      refine WO.step (v := (.agg [(.int .i64 y43.Time), (.int .i64 y43.Seq), (.int .i64 y43.Rep)])) rfl (nz rfl (stp_load rfl (H.get 0 rfl) rfl)) ?_
      refine WO.step (v := (.ptr id 0)) rfl (nz rfl rfl) ?_
      refine WO.step (v := (.ptr id 0)) rfl (nz rfl rfl) ?_
      refine WO.store 2 rfl rfl H rfl rfl rfl rfl rfl rfl rfl (Nat.le_of_ble_eq_true rfl) rfl (clean_e rfl) ?_
      intro S H
      replace H : Hp S0 [id] _ [(i2, .cells [(.int .i64 y43.Time), (.int .i64 y43.Seq), (.int .i64 y43.Rep)]), (i1, .cells [(.int .i64 0), (.int .i64 0), (.int .i64 0)]), (id, .cells [(.int .i64 y43.Time), (.int .i64 y43.Seq), (.int .i64 y43.Rep)])] [] [] := H
      refine WO.nil ?_
      refine WC.seqR ?_
      refine WO.step (v := (.agg [(.int .i64 y43.Time), (.int .i64 y43.Seq), (.int .i64 y43.Rep)])) rfl (nz rfl (stp_load rfl (H.get 0 rfl) rfl)) ?_
      refine WO.store 1 rfl rfl H rfl rfl rfl rfl rfl rfl rfl (Nat.le_of_ble_eq_true rfl) rfl (own_e hi1) ?_
      intro S H
      replace H : Hp S0 [id] _ [(i2, .cells [(.int .i64 y43.Time), (.int .i64 y43.Seq), (.int .i64 y43.Rep)]), (i1, .cells [(.int .i64 y43.Time), (.int .i64 y43.Seq), (.int .i64 y43.Rep)]), (id, .cells [(.int .i64 y43.Time), (.int .i64 y43.Seq), (.int .i64 y43.Rep)])] [] [] := H
      refine WO.step (v := (.int .i64 0)) rfl (nz rfl rfl) ?_
      refine WO.nil ?_
      refine WC.ret ?_
      obtain rfl := Option.some.inj h
      refine KB.ret (vs := [(.agg [(.int .i64 y43.Time), (.int .i64 y43.Seq), (.int .i64 y43.Rep)]), (.int .i64 0)]) (res_cell rfl (H.get 1 rfl) rfl (res_tmp rfl res_nil)) (fl_cons' rfl (fl_cons' rfl rfl)) ?_
      exact leave_hp hS H 2 rfl rfl rfl
-- 32 (*prefect/csn.Gen).See
/-- (*prefect/csn.Gen).See -/
def F32 (k : Nat) (a0 : Csn_Gen) (a1 : Api_CSN) : Option Csn_Gen :=
  Option.bind (F73 k a1) fun y4 =>
  Option.bind (if y4 then
  Option.bind (F25 k (Api_CSN.mk a1.Time a1.Seq a0.last.Rep) a0.last) fun y8 =>
  some (decide (y8 > 0))
  else
  some false) fun y7 =>
  Option.bind (if y7 then
  some (Csn_Gen.mk (Api_CSN.mk a1.Time a1.Seq a0.last.Rep))
  else
  some a0) fun y12 =>
  some y12
theorem s32 : ∀ k : Nat, ∀ {a0 : Csn_Gen} {a1 : Api_CSN} {r : Csn_Gen}, F32 k a0 a1 = some r → ∀ {id : Nat} {S : List SObj}, S[id]? = some (.cells [(.int .i64 a0.last.Time), (.int .i64 a0.last.Seq), (.int .i64 a0.last.Rep)]) → evw env 32 [.ptr id 0, (.agg [(.int .i64 a1.Time), (.int .i64 a1.Seq), (.int .i64 a1.Rep)])] S = some ((.tup []), S.set id (.cells [(.int .i64 r.last.Time), (.int .i64 r.last.Seq), (.int .i64 r.last.Rep)]), false) := by
  intro k a0 a1 r h id S0 hS
  unfold F32 at h
  refine evw_recvW (pf := fn32) rfl rfl (Nat.le_of_ble_eq_true rfl) rfl ?_
  refine WB.of (pf := fn32) rfl ?_
  have H := Hp.start1 hS rfl
  refine WC.seqR ?_
  refine WO.box' rfl rfl rfl rfl rfl H ?_
  intro i1 S hi1 H
  refine WO.nil ?_
  refine WC.seq ?_
  refine WC.drawC ?_
  refine WK.step (v := (.ptr i1 0)) rfl (nz rfl rfl) rfl rfl rfl rfl ?_
  refine WK.load rfl rfl (ld (H.get 0 rfl) rfl) hist_nil ?_
  refine WK.step (v := (.ptr i1 1)) rfl (nz rfl rfl) rfl rfl rfl rfl ?_
  refine WK.load rfl rfl (ld (H.get 0 rfl) rfl) hist_nil ?_
  refine WK.step (v := (.ptr id 0)) rfl (nz rfl rfl) rfl rfl rfl rfl ?_
  refine WK.step (v := (.ptr id 0)) rfl (nz rfl rfl) rfl rfl rfl rfl ?_
  refine WK.step (v := (.ptr id 0)) rfl (nz rfl rfl) rfl rfl rfl rfl ?_
  refine WK.step (v := (.ptr id 2)) rfl (nz rfl rfl) rfl rfl rfl rfl ?_
  refine WK.load rfl rfl (ld (H.get 1 rfl) rfl) hist_nil ?_
  refine WK.step (v := (.agg [(.int .i64 a1.Time), (.int .i64 a1.Seq), (.int .i64 a0.last.Rep)])) rfl (nz rfl (stp_build (ti := ty31) rfl rfl rfl rfl rfl (fill_cons rfl rfl rfl rfl (Nat.le_of_ble_eq_true rfl) rfl (fill_cons rfl rfl rfl rfl (Nat.le_of_ble_eq_true rfl) rfl (fill_cons rfl rfl rfl rfl (Nat.le_of_ble_eq_true rfl) rfl rfl))))) rfl rfl rfl rfl ?_
  have Hh3 := H
  refine WK.alloc' (ti := ty31) rfl rfl rfl rfl H ?_
  intro i2 S hi2 H
  replace H : Hp S0 [id] _ [(i2, .cells [(.int .i64 0), (.int .i64 0), (.int .i64 0)]), (i1, .cells [(.int .i64 a1.Time), (.int .i64 a1.Seq), (.int .i64 a1.Rep)]), (id, .cells [(.int .i64 a0.last.Time), (.int .i64 a0.last.Seq), (.int .i64 a0.last.Rep)])] [] [] := H
  refine ⟨(pend_cons (ld (H.get 2 rfl) rfl) (pend_cons (ld (H.get 1 rfl) rfl) (pend_cons (ld (H.get 1 rfl) rfl) pend_nil))), ?_⟩
  refine WK.nil ?_
  refine WO.store 0 rfl rfl H rfl rfl rfl rfl rfl rfl rfl (Nat.le_of_ble_eq_true rfl) rfl (own_e hi2) ?_
  intro S H
  replace H : Hp S0 [id] _ [(i2, .cells [(.int .i64 a1.Time), (.int .i64 a1.Seq), (.int .i64 a0.last.Rep)]), (i1, .cells [(.int .i64 a1.Time), (.int .i64 a1.Seq), (.int .i64 a1.Rep)]), (id, .cells [(.int .i64 a0.last.Time), (.int .i64 a0.last.Seq), (.int .i64 a0.last.Rep)])] [] [] := H
  refine WO.nil ?_
  refine KX.seq_n ?_
  refine WC.seq ?_
  refine WC.draw ?_
  refine WH.step (v := (.agg [(.int .i64 a1.Time), (.int .i64 a1.Seq), (.int .i64 a1.Rep)])) rfl (nz rfl (stp_load rfl (H.get 1 rfl) rfl)) rfl rfl ?_
  obtain ⟨y4, hy4, h⟩ := bindS h
  refine WH.step (v := (.bool y4)) rfl (nz rfl (stp_call (vs := [(.agg [(.int .i64 a1.Time), (.int .i64 a1.Seq), (.int .i64 a1.Rep)])]) rfl rfl (s73 _ hy4 rfl _))) rfl rfl ?_
  refine WH.step (v := (.bool y4)) rfl (nz rfl rfl) rfl rfl ?_
  obtain ⟨y7, hy7, hOy7⟩ := bindS h
  refine WD.split 3 (fun σ' S' e' => Known ([(0, (.ptr id 0)), (4, (.ptr i2 0)), (25, (.bool y7))]) σ' ∧ Hp S0 [id] S' [(i2, .cells [(.int .i64 a1.Time), (.int .i64 a1.Seq), (.int .i64 a0.last.Rep)]), (i1, .cells [(.int .i64 a1.Time), (.int .i64 a1.Seq), (.int .i64 a1.Rep)]), (id, .cells [(.int .i64 a0.last.Time), (.int .i64 a0.last.Seq), (.int .i64 a0.last.Rep)])] [] [] ∧ e' = false) ?_ ?_
  · replace h := hy7
    revert H
    cases hc9 : y4
    · intro H
      replace h := iteF h hc9
      refine WH.by rfl rfl rfl ?_
      refine WH.by rfl rfl rfl ?_
      refine WH.by rfl rfl rfl ?_
      refine WH.by rfl rfl rfl ?_
      refine WH.by rfl rfl rfl ?_
      refine WH.nil ?_
      refine WO.by rfl rfl rfl ?_
      refine WO.by rfl rfl rfl ?_
      refine WO.step (v := (.bool false)) rfl (nz rfl rfl) ?_
      refine WO.nil ?_
      obtain rfl := Option.some.inj h
      exact ⟨(known_cons rfl (known_cons rfl (known_cons rfl known_nil))), (H.sub (.cons_cons _ (.cons_cons _ (.cons_cons _ .slnil))) .slnil .slnil), rfl⟩
    · intro H
      replace h := iteT h hc9
      refine WH.go0 rfl rfl ?_
      refine WH.step (v := (.agg [(.int .i64 a1.Time), (.int .i64 a1.Seq), (.int .i64 a0.last.Rep)])) rfl (nz rfl (stp_load rfl (H.get 0 rfl) rfl)) rfl rfl ?_
      refine WH.go0 rfl rfl ?_
      refine WH.step (v := (.ptr id 0)) rfl (nz rfl rfl) rfl rfl ?_
      refine WH.go0 rfl rfl ?_
      refine WH.step (v := (.ptr id 0)) rfl (nz rfl rfl) rfl rfl ?_
      refine WH.go0 rfl rfl ?_
      refine WH.step (v := (.ptr id 0)) rfl (nz rfl rfl) rfl rfl ?_
      refine WH.go0 rfl rfl ?_
      refine WH.step (v := (.agg [(.int .i64 a0.last.Time), (.int .i64 a0.last.Seq), (.int .i64 a0.last.Rep)])) rfl (nz rfl (stp_load rfl (H.get 2 rfl) rfl)) rfl rfl ?_
      refine WH.nil ?_
      refine WO.go0 rfl rfl ?_
      obtain ⟨y8, hy8, h⟩ := bindS h
      refine WO.step (v := (.int .i64 y8)) rfl (nz rfl (stp_call (vs := [(.agg [(.int .i64 a1.Time), (.int .i64 a1.Seq), (.int .i64 a0.last.Rep)]), (.agg [(.int .i64 a0.last.Time), (.int .i64 a0.last.Seq), (.int .i64 a0.last.Rep)])]) rfl rfl (s25 _ hy8 rfl _))) ?_
      refine WO.go0 rfl rfl ?_
      refine WO.step (v := (.bool (decide (y8 > 0)))) rfl (nz rfl rfl) ?_
      refine WO.step (v := (.bool (decide (y8 > 0)))) rfl (nz rfl rfl) ?_
      refine WO.nil ?_
      obtain rfl := Option.some.inj h
      exact ⟨(known_cons rfl (known_cons rfl (known_cons rfl known_nil))), (H.sub (.cons_cons _ (.cons_cons _ (.cons_cons _ .slnil))) .slnil .slnil), rfl⟩
  · rintro σ S e ⟨hk, H, rfl⟩
    replace h := hOy7
    refine WO.of_known hk ?_
    refine WO.nil ?_
    refine KX.seq_n ?_
    obtain ⟨y12, hy12, hOy12⟩ := bindS h
    refine WC.join (fun σ' S' e' => Known ([]) σ' ∧ Hp S0 [id] S' [(i2, .cells [(.int .i64 a1.Time), (.int .i64 a1.Seq), (.int .i64 a0.last.Rep)]), (i1, .cells [(.int .i64 a1.Time), (.int .i64 a1.Seq), (.int .i64 a1.Rep)]), (id, .cells [(.int .i64 y12.last.Time), (.int .i64 y12.last.Seq), (.int .i64 y12.last.Rep)])] [] [] ∧ e' = false) ?_ ?_
    · replace h := hy12
      rcases iteS h with ⟨hc13, h⟩ | ⟨hc13, h⟩
      · refine WC.condT rfl hc13 ?_
        refine WC.region ?_
        refine WO.step (v := (.ptr id 0)) rfl (nz rfl rfl) ?_
        refine WO.step (v := (.agg [(.int .i64 a1.Time), (.int .i64 a1.Seq), (.int .i64 a0.last.Rep)])) rfl (nz rfl (stp_load rfl (H.get 0 rfl) rfl)) ?_
        refine WO.step (v := (.ptr id 0)) rfl (nz rfl rfl) ?_
        refine WO.step (v := (.ptr id 0)) rfl (nz rfl rfl) ?_
        refine WO.store 2 rfl rfl H rfl rfl rfl rfl rfl rfl rfl (Nat.le_of_ble_eq_true rfl) rfl (clean_e rfl) ?_
        intro S H
        replace H : Hp S0 [id] _ [(i2, .cells [(.int .i64 a1.Time), (.int .i64 a1.Seq), (.int .i64 a0.last.Rep)]), (i1, .cells [(.int .i64 a1.Time), (.int .i64 a1.Seq), (.int .i64 a1.Rep)]), (id, .cells [(.int .i64 a1.Time), (.int .i64 a1.Seq), (.int .i64 a0.last.Rep)])] [] [] := H
        refine WO.nil ?_
        refine KX.seq_n ?_
        obtain rfl := Option.some.inj h
        exact ⟨known_nil, (H.sub (.cons_cons _ (.cons_cons _ (.cons_cons _ .slnil))) .slnil .slnil), rfl⟩
      · refine WC.condF rfl hc13 ?_
        refine WC.skip ?_
        refine KX.seq_n ?_
        obtain rfl := Option.some.inj h
        exact ⟨known_nil, (H.sub (.cons_cons _ (.cons_cons _ (.cons_cons _ .slnil))) .slnil .slnil), rfl⟩
    · rintro σ S e ⟨hk, H, rfl⟩
      replace h := hOy12
      refine KX.of_known hk ?_
      obtain rfl := Option.some.inj h
      refine KB.normal (vs := []) res_nil rfl ?_
      exact leave_hp hS H 2 rfl rfl rfl
-- 55 prefect/csn.Text
/-- prefect/csn.Text -/
def F55 (k : Nat) (a0 : Api_CSN) : Option Str :=
  Option.bind (itoa? a0.Time) fun y2 =>
  Option.bind (Str.app? y2 [46]) fun z3 =>
  Option.bind (itoa? a0.Seq) fun y4 =>
  Option.bind (Str.app? z3 y4) fun z5 =>
  Option.bind (Str.app? z5 [46]) fun z6 =>
  Option.bind (itoa? a0.Rep) fun y7 =>
  Option.bind (Str.app? z6 y7) fun z8 =>
  some z8
theorem s55 : ∀ k : Nat, ∀ {a0 : Api_CSN} {r : Str}, F55 k a0 = some r → ∀ {vs : List PV}, vs.map PV.strip = [(.agg [(.int .i64 a0.Time), (.int .i64 a0.Seq), (.int .i64 a0.Rep)])] → ∀ S : List SObj, evw env 55 vs S = some ((.str r), S, false) := by
  intro k a0 r h vs ha S
  unfold F55 at h
  refine evw_pureW (pf := fn55) rfl rfl ha (Nat.le_of_ble_eq_true rfl) rfl rfl ?_
  refine WB.of (pf := fn55) rfl ?_
  have H := Hp.start []
  refine WC.seqR ?_
  refine WO.box' rfl rfl rfl rfl rfl H ?_
  intro i1 S hi1 H
  refine WO.step (v := (.str [])) rfl (nz rfl rfl) ?_
  refine WO.nil ?_
  refine WC.seq ?_
  refine WC.draw ?_
  refine WH.step (v := (.ptr i1 0)) rfl (nz rfl rfl) rfl rfl ?_
  refine WH.step (v := (.int .i64 a0.Time)) rfl (nz rfl (stp_load rfl (H.get 0 rfl) rfl)) rfl rfl ?_
  obtain ⟨y2, hy2, h⟩ := bindS h
  refine WH.step (v := (.str y2)) rfl (nz rfl (stp_call (vs := [(.int .i64 a0.Time), (.int .i64 10)]) rfl rfl (evw_fmt rfl hy2 _))) rfl rfl ?_
  obtain ⟨z3, hz3, h⟩ := bindS h
  refine WH.step (v := (.str z3)) rfl (nz rfl (stp_strApp rfl rfl hz3)) rfl rfl ?_
  refine WH.step (v := (.ptr i1 1)) rfl (nz rfl rfl) rfl rfl ?_
  refine WH.step (v := (.int .i64 a0.Seq)) rfl (nz rfl (stp_load rfl (H.get 0 rfl) rfl)) rfl rfl ?_
  obtain ⟨y4, hy4, h⟩ := bindS h
  refine WH.step (v := (.str y4)) rfl (nz rfl (stp_call (vs := [(.int .i64 a0.Seq)]) rfl rfl (evw_ito rfl hy4 _))) rfl rfl ?_
  obtain ⟨z5, hz5, h⟩ := bindS h
  refine WH.step (v := (.str z5)) rfl (nz rfl (stp_strApp rfl rfl hz5)) rfl rfl ?_
  obtain ⟨z6, hz6, h⟩ := bindS h
  refine WH.step (v := (.str z6)) rfl (nz rfl (stp_strApp rfl rfl hz6)) rfl rfl ?_
  refine WH.step (v := (.ptr i1 2)) rfl (nz rfl rfl) rfl rfl ?_
  refine WH.step (v := (.int .i64 a0.Rep)) rfl (nz rfl (stp_load rfl (H.get 0 rfl) rfl)) rfl rfl ?_
  obtain ⟨y7, hy7, h⟩ := bindS h
  refine WH.step (v := (.str y7)) rfl (nz rfl (stp_call (vs := [(.int .i64 a0.Rep)]) rfl rfl (evw_ito rfl hy7 _))) rfl rfl ?_
  refine WH.nil ?_
  obtain ⟨z8, hz8, h⟩ := bindS h
  refine WO.step (v := (.str z8)) rfl (nz rfl (stp_strApp rfl rfl hz8)) ?_
  refine WO.step (v := (.str z8)) rfl (nz rfl rfl) ?_
  refine WO.nil ?_
  refine KX.seq_n ?_
  refine WC.ret ?_
  obtain rfl := Option.some.inj h
  refine KB.ret (vs := [(.str z8)]) (res_tmp rfl res_nil) (fl_cons' rfl rfl) ?_
  exact rfl
-- 27 prefect/store.reserve
/-- prefect/store.reserve -/
def F27 (k : Nat) (a0 : Api_CSN) : Option Str :=
  Option.bind (F55 k a0) fun y2 =>
  Option.bind (Str.app? [82] y2) fun z3 =>
  some z3
theorem s27 : ∀ k : Nat, ∀ {a0 : Api_CSN} {r : Str}, F27 k a0 = some r → ∀ {vs : List PV}, vs.map PV.strip = [(.agg [(.int .i64 a0.Time), (.int .i64 a0.Seq), (.int .i64 a0.Rep)])] → ∀ S : List SObj, evw env 27 vs S = some ((.str r), S, false) := by
  intro k a0 r h vs ha S
  unfold F27 at h
  refine evw_pureW (pf := fn27) rfl rfl ha (Nat.le_of_ble_eq_true rfl) rfl rfl ?_
  refine WB.of (pf := fn27) rfl ?_
  have H := Hp.start []
  refine WC.seqR ?_
  refine WO.box' rfl rfl rfl rfl rfl H ?_
  intro i1 S hi1 H
  refine WO.step (v := (.str [])) rfl (nz rfl rfl) ?_
  refine WO.nil ?_
  refine WC.seqR ?_
  refine WO.step (v := (.agg [(.int .i64 a0.Time), (.int .i64 a0.Seq), (.int .i64 a0.Rep)])) rfl (nz rfl (stp_load rfl (H.get 0 rfl) rfl)) ?_
  obtain ⟨y2, hy2, h⟩ := bindS h
  refine WO.step (v := (.str y2)) rfl (nz rfl (stp_call (vs := [(.agg [(.int .i64 a0.Time), (.int .i64 a0.Seq), (.int .i64 a0.Rep)])]) rfl rfl (s55 _ hy2 rfl _))) ?_
  obtain ⟨z3, hz3, h⟩ := bindS h
  refine WO.step (v := (.str z3)) rfl (nz rfl (stp_strApp rfl rfl hz3)) ?_
  refine WO.step (v := (.str z3)) rfl (nz rfl rfl) ?_
  refine WO.nil ?_
  refine WC.ret ?_
  obtain rfl := Option.some.inj h
  refine KB.ret (vs := [(.str z3)]) (res_tmp rfl res_nil) (fl_cons' rfl rfl) ?_
  exact rfl
-- 21 prefect/store.chunks
def F21_L0 (k : Nat) : Nat → Str → (Sl Str) → Option (Str × (Sl Str))
  | 0, _, _ => none
  | n + 1, x40, x41 =>
    if decide ((Str.len x40) > 50000) then
    Option.bind (Str.sub? x40 0 50000) fun z50 =>
    Option.bind (Str.app? [99] z50) fun z51 =>
    Option.bind (Sl.app? 16 x41 (Sl.l (some [z51]))) fun z53 =>
    Option.bind (Str.sub? x40 50000 (Str.len x40)) fun z55 =>
    F21_L0 k n z55 z53
    else
    some (x40, x41)
/-- prefect/store.chunks -/
def F21 (k : Nat) (a0 : Str) : Option (Sl Str) :=
  Option.bind (F21_L0 k k a0 none) fun y58 =>
  Option.bind (Str.app? [101] y58.1) fun z60 =>
  Option.bind (Sl.app? 16 y58.2 (Sl.l (some [z60]))) fun z62 =>
  some z62
theorem l21_L0 {k : Nat} {S0 : List SObj} {R : List Nat} {K : KX}  {o : (Str × (Sl Str))}
    (hbrk : ∀ {σ' : Nat → PV} {S' : List SObj}, ∀ (v57 : PV) (_ : IsSl eS o.2 v57), Known [(0, (.str o.1)), (3, v57)] σ' → Hp S0 R S' [] [(v57, 1)] [] → K (.exit 0) σ' S' false) :
    ∀ {n : Nat} {x40 : Str} {x41 : Sl Str}, F21_L0 k n x40 x41 = some o → ∀ {σ : Nat → PV} {S : List SObj}, ∀ (v42 : PV) (_ : IsSl eS x41 v42), Known [(0, (.str x40)), (3, v42)] σ → Hp S0 R S [] [(v42, 1)] [] → WC env ⟨20, S0.length⟩ (.loop pc21L0) σ S false K := by
  intro n
  induction n with
  | zero => intro _ _ h; cases h
  | succ n ih =>
    intro x40 x41 h σ S v42 hv42 hk H
    rw [F21_L0] at h
    refine WC.loop ?_
    refine WC.of_known hk ?_
    refine WC.seq ?_
    refine WC.seqR ?_
    refine WO.step (v := (.str x40)) rfl (nz rfl rfl) ?_
    refine WO.step (v := (.int .i64 (Str.len x40))) rfl (nz rfl rfl) ?_
    refine WO.step (v := (.bool (decide ((Str.len x40) > 50000)))) rfl (nz rfl rfl) ?_
    refine WO.nil ?_
    rcases iteS h with ⟨hc56, h⟩ | ⟨hc56, h⟩
    · refine WC.condT rfl hc56 ?_
      refine WC.skip ?_
      refine KX.seq_n ?_
      refine WC.block ?_
      refine WC.seqR ?_
      refine WO.step (v := v42) rfl (nz rfl rfl) ?_
      refine WO.step (v := (.str x40)) rfl (nz rfl rfl) ?_
      obtain ⟨z50, hz50, h⟩ := bindS h
      refine WO.step (v := (.str z50)) rfl (nz rfl (stp_subStr rfl rfl rfl rfl hz50)) ?_
      obtain ⟨z51, hz51, h⟩ := bindS h
      refine WO.step (v := (.str z51)) rfl (nz rfl (stp_strApp rfl rfl hz51)) ?_
      refine WO.step rfl (nz rfl (stp_buildSlice (ys := [z51]) (f := eS) (parts := [(0, (.str z51))]) rfl rfl rfl rfl rfl rfl (fc ⟨rfl, rfl⟩ (fun p hp => nomatch hp)) rfl)) ?_
      have hv52 : IsSl eS (some [z51]) _ := ⟨.full, rfl⟩
      obtain ⟨z53, hz53, h⟩ := bindS h
      refine WO.ex rfl (nzx (fz_tmp' hv52.frz rfl) (stp_app (f := eS) (ei := ty9) H 0 rfl rfl hv42 rfl hv52 rfl rfl rfl rfl (fun _ => rfl) hz53)) ?_
      rintro v54 S ⟨hv54, H⟩
      replace H : Hp S0 R _ [] [(v54, 1)] [] := H
      refine WO.step (v := v54) rfl (nz rfl rfl) ?_
      refine WO.nil ?_
      refine WC.region ?_
      refine WO.step (v := (.str x40)) rfl (nz rfl rfl) ?_
      obtain ⟨z55, hz55, h⟩ := bindS h
      refine WO.step (v := (.str z55)) rfl (nz rfl (stp_subStr rfl rfl rfl rfl hz55)) ?_
      refine WO.step (v := (.str z55)) rfl (nz rfl rfl) ?_
      refine WO.nil ?_
      refine KX.block_n ?_
      refine KX.seq_n ?_
      exact ih h v54 (hv54) (known_cons rfl (known_cons rfl known_nil)) (H.sub .slnil (.cons_cons _ .slnil) .slnil)
    · refine WC.condF rfl hc56 ?_
      refine WC.exit ?_
      refine KX.seq_x ?_
      refine KX.seq_x ?_
      obtain rfl := Option.some.inj h
      exact hbrk v42 (hv42) (known_cons rfl (known_cons rfl known_nil)) (H.sub .slnil (.cons_cons _ .slnil) .slnil)
theorem s21 : ∀ k : Nat, ∀ {a0 : Str} {r : (Sl Str)}, F21 k a0 = some r → ∀ {vs : List PV}, vs.map PV.strip = [(.str a0)] → ∀ S : List SObj, evw env 21 vs S = some ((encSl eS r), S, false) := by
  intro k a0 r h vs ha S
  unfold F21 at h
  refine evw_pureW (pf := fn21) rfl rfl ha (Nat.le_of_ble_eq_true rfl) rfl (by simp [PV.clean, cleanL, clean_encSl clean_eS]) ?_
  refine WB.of (pf := fn21) rfl ?_
  have H := Hp.start []
  refine WC.seqR ?_
  refine WO.step (v := .nils) rfl (nz rfl rfl) ?_
  refine WO.nil ?_
  refine WC.seqR ?_
  refine WO.step (v := .nils) rfl (nz rfl rfl) ?_
  refine WO.nil ?_
  refine WC.seq ?_
  obtain ⟨y58, hy58, hOy58⟩ := bindS h
  refine WC.block ?_
  have H := H.addNil 1
  refine l21_L0 ?_ hy58 .nils ((isSl_nil _)) (known_cons rfl (known_cons rfl known_nil)) (H.sub .slnil (.cons_cons _ .slnil) .slnil)
  · intro σ S v59 hv59 hk H; replace h := hOy58
    refine KX.of_known hk ?_
    refine KX.block_x ?_
    refine KX.seq_n ?_
    refine WC.seqR ?_
    refine WO.step (v := v59) rfl (nz rfl rfl) ?_
    refine WO.step (v := (.str y58.1)) rfl (nz rfl rfl) ?_
    obtain ⟨z60, hz60, h⟩ := bindS h
    refine WO.step (v := (.str z60)) rfl (nz rfl (stp_strApp rfl rfl hz60)) ?_
    refine WO.step rfl (nz rfl (stp_buildSlice (ys := [z60]) (f := eS) (parts := [(0, (.str z60))]) rfl rfl rfl rfl rfl rfl (fc ⟨rfl, rfl⟩ (fun p hp => nomatch hp)) rfl)) ?_
    have hv61 : IsSl eS (some [z60]) _ := ⟨.full, rfl⟩
    obtain ⟨z62, hz62, h⟩ := bindS h
    refine WO.ex rfl (nzx (fz_tmp' hv61.frz rfl) (stp_app (f := eS) (ei := ty9) H 0 rfl rfl hv59 rfl hv61 rfl rfl rfl rfl (fun _ => rfl) hz62)) ?_
    rintro v63 S ⟨hv63, H⟩
    replace H : Hp [] [] _ [] [(v63, 1)] [] := H
    refine WO.step (v := v63) rfl (nz rfl rfl) ?_
    refine WO.nil ?_
    refine WC.ret ?_
    obtain rfl := Option.some.inj h
    refine KB.ret (vs := [v63]) (res_tmp rfl res_nil) (fl_cons' hv63.frz rfl) ?_
    exact (by simp only [st_tup, List.map_cons, List.map_nil, tupled, hv63.strip])
-- 9 prefect/prefectref10.Cmp
/-- prefect/prefectref10.Cmp -/
def F9 (k : Nat) (a0 : Api_CSN) (a1 : Api_CSN) : Option Int :=
  if (decide (a0.Time < a1.Time)) || ((a0.Time == a1.Time) && ((decide (a0.Seq < a1.Seq)) || ((a0.Seq == a1.Seq) && (decide (a0.Rep < a1.Rep))))) then
  some (-1)
  else
  if (a0.Time == a1.Time) && ((a0.Seq == a1.Seq) && ((a0.Rep == a1.Rep) && true)) then
  some 0
  else
  some 1
theorem s9 : ∀ k : Nat, ∀ {a0 : Api_CSN} {a1 : Api_CSN} {r : Int}, F9 k a0 a1 = some r → ∀ {vs : List PV}, vs.map PV.strip = [(.agg [(.int .i64 a0.Time), (.int .i64 a0.Seq), (.int .i64 a0.Rep)]), (.agg [(.int .i64 a1.Time), (.int .i64 a1.Seq), (.int .i64 a1.Rep)])] → ∀ S : List SObj, evw env 9 vs S = some ((.int .i64 r), S, false) := by
  intro k a0 a1 r h vs ha S
  unfold F9 at h
  refine evw_pureW (pf := fn9) rfl rfl ha (Nat.le_of_ble_eq_true rfl) rfl rfl ?_
  refine WB.of (pf := fn9) rfl ?_
  have H := Hp.start []
  refine WC.seqR ?_
  refine WO.box' rfl rfl rfl rfl rfl H ?_
  intro i1 S hi1 H
  refine WO.box' rfl rfl rfl rfl rfl H ?_
  intro i2 S hi2 H
  refine WO.step (v := (.int .i64 0)) rfl (nz rfl rfl) ?_
  refine WO.nil ?_
  refine WC.seq ?_
  refine WC.block ?_
  refine WC.seqR ?_
  refine WO.step (v := (.ptr i1 0)) rfl (nz rfl rfl) ?_
  refine WO.step (v := (.int .i64 a0.Time)) rfl (nz rfl (stp_load rfl (H.get 1 rfl) rfl)) ?_
  refine WO.step (v := (.ptr i2 0)) rfl (nz rfl rfl) ?_
  refine WO.step (v := (.int .i64 a1.Time)) rfl (nz rfl (stp_load rfl (H.get 0 rfl) rfl)) ?_
  refine WO.step (v := (.bool (decide (a0.Time < a1.Time)))) rfl (nz rfl rfl) ?_
  refine WO.step (v := (.bool (decide (a0.Time < a1.Time)))) rfl (nz rfl rfl) ?_
  refine WO.split 27 (fun σ' S' e' => Known ([(2, (.ptr i1 0)), (3, (.ptr i2 0)), (38, (.bool ((decide (a0.Time < a1.Time)) || ((a0.Time == a1.Time) && ((decide (a0.Seq < a1.Seq)) || ((a0.Seq == a1.Seq) && (decide (a0.Rep < a1.Rep))))))))]) σ' ∧ Hp [] [] S' [(i2, .cells [(.int .i64 a1.Time), (.int .i64 a1.Seq), (.int .i64 a1.Rep)]), (i1, .cells [(.int .i64 a0.Time), (.int .i64 a0.Seq), (.int .i64 a0.Rep)])] [] [] ∧ e' = false) ?_ ?_
  · revert H
    cases hc75 : (decide (a0.Time < a1.Time))
    · intro H
      refine WO.go0 rfl rfl ?_
      refine WO.step (v := (.ptr i1 0)) rfl (nz rfl rfl) ?_
      refine WO.go0 rfl rfl ?_
      refine WO.step (v := (.int .i64 a0.Time)) rfl (nz rfl (stp_load rfl (H.get 1 rfl) rfl)) ?_
      refine WO.go0 rfl rfl ?_
      refine WO.step (v := (.ptr i2 0)) rfl (nz rfl rfl) ?_
      refine WO.go0 rfl rfl ?_
      refine WO.step (v := (.int .i64 a1.Time)) rfl (nz rfl (stp_load rfl (H.get 0 rfl) rfl)) ?_
      refine WO.go0 rfl rfl ?_
      refine WO.step (v := (.bool (a0.Time == a1.Time))) rfl (nz rfl rfl) ?_
      refine WO.go0 rfl rfl ?_
      refine WO.step (v := (.bool (a0.Time == a1.Time))) rfl (nz rfl rfl) ?_
      refine WO.split 20 (fun σ' S' e' => Known ([(2, (.ptr i1 0)), (3, (.ptr i2 0)), (11, (.bool false)), (37, (.bool ((a0.Time == a1.Time) && ((decide (a0.Seq < a1.Seq)) || ((a0.Seq == a1.Seq) && (decide (a0.Rep < a1.Rep)))))))]) σ' ∧ Hp [] [] S' [(i2, .cells [(.int .i64 a1.Time), (.int .i64 a1.Seq), (.int .i64 a1.Rep)]), (i1, .cells [(.int .i64 a0.Time), (.int .i64 a0.Seq), (.int .i64 a0.Rep)])] [] [] ∧ e' = false) ?_ ?_
      · revert H
        cases hc84 : (a0.Time == a1.Time)
        · intro H
          refine WO.by rfl rfl rfl ?_
          refine WO.by rfl rfl rfl ?_
          refine WO.by rfl rfl rfl ?_
          refine WO.by rfl rfl rfl ?_
          refine WO.by rfl rfl rfl ?_
          refine WO.by rfl rfl rfl ?_
          refine WO.by0 rfl rfl ?_
          refine WO.by0 rfl rfl ?_
          refine WO.by0 rfl rfl ?_
          refine WO.by0 rfl rfl ?_
          refine WO.by0 rfl rfl ?_
          refine WO.by0 rfl rfl ?_
          refine WO.by0 rfl rfl ?_
          refine WO.by0 rfl rfl ?_
          refine WO.by0 rfl rfl ?_
          refine WO.by0 rfl rfl ?_
          refine WO.by0 rfl rfl ?_
          refine WO.by0 rfl rfl ?_
          refine WO.by rfl rfl rfl ?_
          refine WO.go0 rfl rfl ?_
          refine WO.step (v := (.bool false)) rfl (nz rfl rfl) ?_
          refine WO.nil ?_
          exact ⟨(known_cons rfl (known_cons rfl (known_cons rfl (known_cons rfl known_nil)))), H, rfl⟩
        · intro H
          refine WO.go0 rfl rfl ?_
          refine WO.step (v := (.ptr i1 1)) rfl (nz rfl rfl) ?_
          refine WO.go0 rfl rfl ?_
          refine WO.step (v := (.int .i64 a0.Seq)) rfl (nz rfl (stp_load rfl (H.get 1 rfl) rfl)) ?_
          refine WO.go0 rfl rfl ?_
          refine WO.step (v := (.ptr i2 1)) rfl (nz rfl rfl) ?_
          refine WO.go0 rfl rfl ?_
          refine WO.step (v := (.int .i64 a1.Seq)) rfl (nz rfl (stp_load rfl (H.get 0 rfl) rfl)) ?_
          refine WO.go0 rfl rfl ?_
          refine WO.step (v := (.bool (decide (a0.Seq < a1.Seq)))) rfl (nz rfl rfl) ?_
          refine WO.go0 rfl rfl ?_
          refine WO.step (v := (.bool (decide (a0.Seq < a1.Seq)))) rfl (nz rfl rfl) ?_
          refine WO.split 13 (fun σ' S' e' => Known ([(2, (.ptr i1 0)), (3, (.ptr i2 0)), (11, (.bool false)), (17, (.bool true)), (36, (.bool ((decide (a0.Seq < a1.Seq)) || ((a0.Seq == a1.Seq) && (decide (a0.Rep < a1.Rep))))))]) σ' ∧ Hp [] [] S' [(i2, .cells [(.int .i64 a1.Time), (.int .i64 a1.Seq), (.int .i64 a1.Rep)]), (i1, .cells [(.int .i64 a0.Time), (.int .i64 a0.Seq), (.int .i64 a0.Rep)])] [] [] ∧ e' = false) ?_ ?_
          · revert H
            cases hc87 : (decide (a0.Seq < a1.Seq))
            · intro H
              refine WO.go0 rfl rfl ?_
              refine WO.step (v := (.ptr i1 1)) rfl (nz rfl rfl) ?_
              refine WO.go0 rfl rfl ?_
              refine WO.step (v := (.int .i64 a0.Seq)) rfl (nz rfl (stp_load rfl (H.get 1 rfl) rfl)) ?_
              refine WO.go0 rfl rfl ?_
              refine WO.step (v := (.ptr i2 1)) rfl (nz rfl rfl) ?_
              refine WO.go0 rfl rfl ?_
              refine WO.step (v := (.int .i64 a1.Seq)) rfl (nz rfl (stp_load rfl (H.get 0 rfl) rfl)) ?_
              refine WO.go0 rfl rfl ?_
              refine WO.step (v := (.bool (a0.Seq == a1.Seq))) rfl (nz rfl rfl) ?_
              refine WO.go0 rfl rfl ?_
              refine WO.step (v := (.bool (a0.Seq == a1.Seq))) rfl (nz rfl rfl) ?_
              refine WO.split 6 (fun σ' S' e' => Known ([(2, (.ptr i1 0)), (3, (.ptr i2 0)), (11, (.bool false)), (17, (.bool true)), (23, (.bool false)), (35, (.bool ((a0.Seq == a1.Seq) && (decide (a0.Rep < a1.Rep)))))]) σ' ∧ Hp [] [] S' [(i2, .cells [(.int .i64 a1.Time), (.int .i64 a1.Seq), (.int .i64 a1.Rep)]), (i1, .cells [(.int .i64 a0.Time), (.int .i64 a0.Seq), (.int .i64 a0.Rep)])] [] [] ∧ e' = false) ?_ ?_
              · revert H
                cases hc88 : (a0.Seq == a1.Seq)
                · intro H
                  refine WO.by rfl rfl rfl ?_
                  refine WO.by rfl rfl rfl ?_
                  refine WO.by rfl rfl rfl ?_
                  refine WO.by rfl rfl rfl ?_
                  refine WO.by rfl rfl rfl ?_
                  refine WO.go0 rfl rfl ?_
                  refine WO.step (v := (.bool false)) rfl (nz rfl rfl) ?_
                  refine WO.nil ?_
                  exact ⟨(known_cons rfl (known_cons rfl (known_cons rfl (known_cons rfl (known_cons rfl (known_cons rfl known_nil)))))), H, rfl⟩
                · intro H
                  refine WO.go0 rfl rfl ?_
                  refine WO.step (v := (.ptr i1 2)) rfl (nz rfl rfl) ?_
                  refine WO.go0 rfl rfl ?_
                  refine WO.step (v := (.int .i64 a0.Rep)) rfl (nz rfl (stp_load rfl (H.get 1 rfl) rfl)) ?_
                  refine WO.go0 rfl rfl ?_
                  refine WO.step (v := (.ptr i2 2)) rfl (nz rfl rfl) ?_
                  refine WO.go0 rfl rfl ?_
                  refine WO.step (v := (.int .i64 a1.Rep)) rfl (nz rfl (stp_load rfl (H.get 0 rfl) rfl)) ?_
                  refine WO.go0 rfl rfl ?_
                  refine WO.step (v := (.bool (decide (a0.Rep < a1.Rep)))) rfl (nz rfl rfl) ?_
                  refine WO.go0 rfl rfl ?_
                  refine WO.step (v := (.bool (decide (a0.Rep < a1.Rep)))) rfl (nz rfl rfl) ?_
                  refine WO.nil ?_
                  exact ⟨(known_cons rfl (known_cons rfl (known_cons rfl (known_cons rfl (known_cons rfl (known_cons rfl known_nil)))))), H, rfl⟩
              · rintro σ S e ⟨hk, H, rfl⟩
                refine WO.of_known hk ?_
                refine WO.go0 rfl rfl ?_
                refine WO.step (v := (.bool ((a0.Seq == a1.Seq) && (decide (a0.Rep < a1.Rep))))) rfl (nz rfl rfl) ?_
                refine WO.nil ?_
                exact ⟨(known_cons rfl (known_cons rfl (known_cons rfl (known_cons rfl (known_cons rfl known_nil))))), H, rfl⟩
            · intro H
              refine WO.by rfl rfl rfl ?_
              refine WO.by rfl rfl rfl ?_
              refine WO.by rfl rfl rfl ?_
              refine WO.by rfl rfl rfl ?_
              refine WO.by rfl rfl rfl ?_
              refine WO.by rfl rfl rfl ?_
              refine WO.by0 rfl rfl ?_
              refine WO.by0 rfl rfl ?_
              refine WO.by0 rfl rfl ?_
              refine WO.by0 rfl rfl ?_
              refine WO.by0 rfl rfl ?_
              refine WO.by rfl rfl rfl ?_
              refine WO.go0 rfl rfl ?_
              refine WO.step (v := (.bool true)) rfl (nz rfl rfl) ?_
              refine WO.nil ?_
              exact ⟨(known_cons rfl (known_cons rfl (known_cons rfl (known_cons rfl (known_cons rfl known_nil))))), H, rfl⟩
          · rintro σ S e ⟨hk, H, rfl⟩
            refine WO.of_known hk ?_
            refine WO.go0 rfl rfl ?_
            refine WO.step (v := (.bool ((decide (a0.Seq < a1.Seq)) || ((a0.Seq == a1.Seq) && (decide (a0.Rep < a1.Rep)))))) rfl (nz rfl rfl) ?_
            refine WO.nil ?_
            exact ⟨(known_cons rfl (known_cons rfl (known_cons rfl (known_cons rfl known_nil)))), H, rfl⟩
      · rintro σ S e ⟨hk, H, rfl⟩
        refine WO.of_known hk ?_
        refine WO.step (v := (.bool ((a0.Time == a1.Time) && ((decide (a0.Seq < a1.Seq)) || ((a0.Seq == a1.Seq) && (decide (a0.Rep < a1.Rep))))))) rfl (nz rfl rfl) ?_
        refine WO.nil ?_
        exact ⟨(known_cons rfl (known_cons rfl (known_cons rfl known_nil))), H, rfl⟩
    · intro H
      refine WO.by rfl rfl rfl ?_
      refine WO.by rfl rfl rfl ?_
      refine WO.by rfl rfl rfl ?_
      refine WO.by rfl rfl rfl ?_
      refine WO.by rfl rfl rfl ?_
      refine WO.by rfl rfl rfl ?_
      refine WO.by0 rfl rfl ?_
      refine WO.by0 rfl rfl ?_
      refine WO.by0 rfl rfl ?_
      refine WO.by0 rfl rfl ?_
      refine WO.by0 rfl rfl ?_
      refine WO.by0 rfl rfl ?_
      refine WO.by0 rfl rfl ?_
      refine WO.by0 rfl rfl ?_
      refine WO.by0 rfl rfl ?_
      refine WO.by0 rfl rfl ?_
      refine WO.by0 rfl rfl ?_
      refine WO.by0 rfl rfl ?_
      refine WO.by0 rfl rfl ?_
      refine WO.by0 rfl rfl ?_
      refine WO.by0 rfl rfl ?_
      refine WO.by0 rfl rfl ?_
      refine WO.by0 rfl rfl ?_
      refine WO.by0 rfl rfl ?_
      refine WO.by0 rfl rfl ?_
      refine WO.by rfl rfl rfl ?_
      refine WO.step (v := (.bool true)) rfl (nz rfl rfl) ?_
      refine WO.nil ?_
      exact ⟨(known_cons rfl (known_cons rfl (known_cons rfl known_nil))), H, rfl⟩
  · rintro σ S e ⟨hk, H, rfl⟩
    refine WO.of_known hk ?_
    refine WO.step (v := (.bool ((decide (a0.Time < a1.Time)) || ((a0.Time == a1.Time) && ((decide (a0.Seq < a1.Seq)) || ((a0.Seq == a1.Seq) && (decide (a0.Rep < a1.Rep)))))))) rfl (nz rfl rfl) ?_
    refine WO.nil ?_
    rcases iteS h with ⟨hc94, h⟩ | ⟨hc94, h⟩
    · refine WC.condT rfl hc94 ?_
      refine WC.seqR ?_
      refine WO.step (v := (.int .i64 (-1))) rfl (nz rfl rfl) ?_
      refine WO.nil ?_
      refine WC.ret ?_
      refine KX.block_r ?_
      refine KX.seq_r ?_
      obtain rfl := Option.some.inj h
      refine KB.ret (vs := [(.int .i64 (-1))]) (res_tmp rfl res_nil) (fl_cons' rfl rfl) ?_
      exact rfl
    · refine WC.condF rfl hc94 ?_
      refine WC.seqR ?_
      refine WO.step (v := (.agg [(.int .i64 a0.Time), (.int .i64 a0.Seq), (.int .i64 a0.Rep)])) rfl (nz rfl (stp_load rfl (H.get 1 rfl) rfl)) ?_
      refine WO.step (v := (.agg [(.int .i64 a1.Time), (.int .i64 a1.Seq), (.int .i64 a1.Rep)])) rfl (nz rfl (stp_load rfl (H.get 0 rfl) rfl)) ?_
      refine WO.step (v := (.bool ((a0.Time == a1.Time) && ((a0.Seq == a1.Seq) && ((a0.Rep == a1.Rep) && true))))) rfl (nz rfl (stp_eq rfl rfl rfl rfl rfl)) ?_
      refine WO.step (v := (.bool ((a0.Time == a1.Time) && ((a0.Seq == a1.Seq) && ((a0.Rep == a1.Rep) && true))))) rfl (nz rfl rfl) ?_
      refine WO.nil ?_
      rcases iteS h with ⟨hc93, h⟩ | ⟨hc93, h⟩
      · refine WC.condT rfl hc93 ?_
        refine WC.seqR ?_
        refine WO.step (v := (.int .i64 0)) rfl (nz rfl rfl) ?_
        refine WO.nil ?_
        refine WC.ret ?_
        refine KX.block_r ?_
        refine KX.seq_r ?_
        obtain rfl := Option.some.inj h
        refine KB.ret (vs := [(.int .i64 0)]) (res_tmp rfl res_nil) (fl_cons' rfl rfl) ?_
        exact rfl
      · refine WC.condF rfl hc93 ?_
        refine WC.skip ?_
        refine KX.block_n ?_
        refine KX.seq_n ?_
        refine WC.seqR ?_
        refine WO.step (v := (.int .i64 1)) rfl (nz rfl rfl) ?_
        refine WO.nil ?_
        refine WC.ret ?_
        obtain rfl := Option.some.inj h
        refine KB.ret (vs := [(.int .i64 1)]) (res_tmp rfl res_nil) (fl_cons' rfl rfl) ?_
        exact rfl
-- 23 (*prefect/csn.Gen).Copy
/-- (*prefect/csn.Gen).Copy -/
def F23 (k : Nat) (a0 : Csn_Gen) : Option (Csn_Gen × Csn_Gen) :=
  some (a0, a0)
theorem s23 : ∀ k : Nat, ∀ {a0 : Csn_Gen} {r : Csn_Gen × Csn_Gen}, F23 k a0 = some r → ∀ {id : Nat} {S : List SObj}, S[id]? = some (.cells [(.int .i64 a0.last.Time), (.int .i64 a0.last.Seq), (.int .i64 a0.last.Rep)]) → ∃ i S', evw env 23 [.ptr id 0] S = some (.ptr i 0, S', false) ∧ Hp S [id] S' [(i, .cells [(.int .i64 r.2.last.Time), (.int .i64 r.2.last.Seq), (.int .i64 r.2.last.Rep)]), (id, .cells [(.int .i64 r.1.last.Time), (.int .i64 r.1.last.Seq), (.int .i64 r.1.last.Rep)])] [] [] := by
  intro k a0 r h id S0 hS
  unfold F23 at h
  refine evw_newR (pf := fn23) rfl rfl (Nat.le_of_ble_eq_true rfl) rfl ?_
  refine WB.of (pf := fn23) rfl ?_
  have H := Hp.start1 hS rfl
  refine WC.seqR ?_
  refine WO.step (v := .nilp) rfl (nz rfl rfl) ?_
  refine WO.nil ?_
  refine WC.seqR ?_
  refine WO.step (v := (.ptr id 0)) rfl (nz rfl rfl) ?_
  refine WO.step (v := (.ptr id 0)) rfl (nz rfl rfl) ?_
  refine WO.step (v := (.ptr id 0)) rfl (nz rfl rfl) ?_
  refine WO.step (v := (.agg [(.int .i64 a0.last.Time), (.int .i64 a0.last.Seq), (.int .i64 a0.last.Rep)])) rfl (nz rfl (stp_load rfl (H.get 0 rfl) rfl)) ?_
  refine WO.step (v := (.agg [(.int .i64 a0.last.Time), (.int .i64 a0.last.Seq), (.int .i64 a0.last.Rep)])) rfl (nz rfl (stp_build (ti := ty102) rfl rfl rfl rfl rfl (fill_cons rfl rfl rfl rfl (Nat.le_of_ble_eq_true rfl) rfl rfl))) ?_
  refine WO.box' rfl rfl rfl rfl rfl H ?_
  intro i1 S hi1 H
  refine WO.step (v := (.ptr i1 0)) rfl (nz rfl rfl) ?_
  refine WO.nil ?_
  refine WC.ret ?_
  obtain rfl := Option.some.inj h
  refine KB.ret (vs := [(.ptr i1 0)]) (res_tmp rfl res_nil) rfl ?_
  exact ⟨_, rfl, rfl, H.sub (.cons_cons _ (.cons_cons _ .slnil)) .slnil .slnil⟩
-- 18 prefect/csn.New
/-- prefect/csn.New -/
def F18 (k : Nat) (a0 : Int) : Option Csn_Gen :=
  some (Csn_Gen.mk (Api_CSN.mk 0 0 (imin (imax a0 0) 5)))
theorem s18 : ∀ k : Nat, ∀ {a0 : Int} {r : Csn_Gen}, F18 k a0 = some r → ∀ S : List SObj, ∃ i S', evw env 18 [(.int .i64 a0)] S = some (.ptr i 0, S', false) ∧ Hp S [] S' [(i, .cells [(.int .i64 r.last.Time), (.int .i64 r.last.Seq), (.int .i64 r.last.Rep)])] [] [] := by
  intro k a0 r h S
  unfold F18 at h
  refine evw_newW (pf := fn18) rfl rfl rfl (Nat.le_of_ble_eq_true rfl) rfl ?_ S
  intro S0
  refine WB.of (pf := fn18) rfl ?_
  have H := Hp.start S0
  refine WC.seqR ?_
  refine WO.step (v := .nilp) rfl (nz rfl rfl) ?_
  refine WO.nil ?_
  refine WC.seqR ?_
  refine WO.step (v := (.int .i64 a0)) rfl (nz rfl rfl) ?_
  refine WO.step (v := (.int .i64 (imax a0 0))) rfl (nz rfl rfl) ?_
  refine WO.step (v := (.int .i64 (imin (imax a0 0) 5))) rfl (nz rfl rfl) ?_
  refine WO.step (v := (.agg [(.int .i64 0), (.int .i64 0), (.int .i64 (imin (imax a0 0) 5))])) rfl (nz rfl (stp_build (ti := ty31) rfl rfl rfl rfl rfl (fill_cons rfl rfl rfl rfl (Nat.le_of_ble_eq_true rfl) rfl rfl))) ?_
  refine WO.step (v := (.agg [(.int .i64 0), (.int .i64 0), (.int .i64 (imin (imax a0 0) 5))])) rfl (nz rfl (stp_build (ti := ty102) rfl rfl rfl rfl rfl (fill_cons rfl rfl rfl rfl (Nat.le_of_ble_eq_true rfl) rfl rfl))) ?_
  refine WO.box' rfl rfl rfl rfl rfl H ?_
  intro i1 S hi1 H
  refine WO.step (v := (.ptr i1 0)) rfl (nz rfl rfl) ?_
  refine WO.nil ?_
  refine WC.ret ?_
  obtain rfl := Option.some.inj h
  refine KB.ret (vs := [(.ptr i1 0)]) (res_tmp rfl res_nil) rfl ?_
  exact ⟨_, rfl, rfl, H.sub (.cons_cons _ .slnil) .slnil .slnil⟩
end Go.Proofs.YtecimmaoilignaaGreatDoor.M.L
