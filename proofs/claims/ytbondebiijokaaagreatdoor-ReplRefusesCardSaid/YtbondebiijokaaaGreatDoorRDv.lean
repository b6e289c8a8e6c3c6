/- Part of the proof: the runs of functions on the abstract machine. -/
import Derived.Test.YtbondebiijokaaaGreatDoorPamM4
import Derived.Test.YtbondebiijokaaaGreatDoorRE
import Derived.Test.YtbondebiijokaaaGreatDoorRDe
namespace Go.Proofs.YtbondebiijokaaaGreatDoor.M
open Go Go.Pam Go.RowKit Go.WideShapes
set_option maxRecDepth 4000
set_option linter.unusedVariables false
set_option linter.unusedSimpArgs false
-- 73 prefect/csn.Is
/-- prefect/csn.Is -/
def F73 (k : Nat) (a0 : Api_CSN) : Option Bool :=
  some ((((((decide (a0.Time ≥ 0)) && (decide (a0.Time ≤ 1099511627776))) && (decide (a0.Seq ≥ 0))) && (decide (a0.Seq ≤ 65535))) && (decide (a0.Rep ≥ 0))) && (decide (a0.Rep < 6)))
theorem s73 : ∀ k : Nat, ∀ {a0 : Api_CSN} {r : Bool}, F73 k a0 = some r → ∀ {vs : List PV}, vs.map PV.strip = [(.agg [(.int .i64 a0.Time), (.int .i64 a0.Seq), (.int .i64 a0.Rep)])] → ∀ S : List SObj, evw env 73 vs S = some ((.bool r), S, false) := by
  intro k a0 r h vs ha S
  unfold F73 at h
  refine evw_pureW (pf := fn73) rfl rfl ha (Nat.le_of_ble_eq_true rfl) rfl rfl ?_
  refine WB.of (pf := fn73) rfl ?_
  have H := Hp.start []
  refine WC.seqR ?_
  refine WO.box' rfl rfl rfl rfl rfl H ?_
  intro i1 S hi1 H
  refine WO.step (v := (.bool false)) rfl (nz rfl rfl) ?_
  refine WO.nil ?_
  refine WC.seqR ?_
  refine WO.step (v := (.ptr i1 0)) rfl (nz rfl rfl) ?_
  refine WO.step (v := (.int .i64 a0.Time)) rfl (nz rfl (stp_load rfl (H.get 0 rfl) rfl)) ?_
  refine WO.step (v := (.bool (decide (a0.Time ≥ 0)))) rfl (nz rfl rfl) ?_
  refine WO.step (v := (.bool (decide (a0.Time ≥ 0)))) rfl (nz rfl rfl) ?_
  refine WO.split 4 (fun σ' S' e' => Known ([(1, (.ptr i1 0)), (10, (.bool ((decide (a0.Time ≥ 0)) && (decide (a0.Time ≤ 1099511627776)))))]) σ' ∧ Hp [] [] S' [(i1, .cells [(.int .i64 a0.Time), (.int .i64 a0.Seq), (.int .i64 a0.Rep)])] [] [] ∧ e' = false) ?_ ?_
  · revert H
    cases hc2 : (decide (a0.Time ≥ 0))
    · intro H
      refine WO.by rfl rfl rfl ?_
      refine WO.by rfl rfl rfl ?_
      refine WO.by rfl rfl rfl ?_
      refine WO.step (v := (.bool false)) rfl (nz rfl rfl) ?_
      refine WO.nil ?_
      exact ⟨(known_cons rfl (known_cons rfl known_nil)), H, rfl⟩
    · intro H
      refine WO.go0 rfl rfl ?_
      refine WO.step (v := (.ptr i1 0)) rfl (nz rfl rfl) ?_
      refine WO.go0 rfl rfl ?_
      refine WO.step (v := (.int .i64 a0.Time)) rfl (nz rfl (stp_load rfl (H.get 0 rfl) rfl)) ?_
      refine WO.go0 rfl rfl ?_
      refine WO.step (v := (.bool (decide (a0.Time ≤ 1099511627776)))) rfl (nz rfl rfl) ?_
      refine WO.step (v := (.bool (decide (a0.Time ≤ 1099511627776)))) rfl (nz rfl rfl) ?_
      refine WO.nil ?_
      exact ⟨(known_cons rfl (known_cons rfl known_nil)), H, rfl⟩
  · rintro σ S e ⟨hk, H, rfl⟩
    refine WO.of_known hk ?_
    refine WO.step (v := (.bool ((decide (a0.Time ≥ 0)) && (decide (a0.Time ≤ 1099511627776))))) rfl (nz rfl rfl) ?_
    refine WO.split 4 (fun σ' S' e' => Known ([(1, (.ptr i1 0)), (15, (.bool (((decide (a0.Time ≥ 0)) && (decide (a0.Time ≤ 1099511627776))) && (decide (a0.Seq ≥ 0)))))]) σ' ∧ Hp [] [] S' [(i1, .cells [(.int .i64 a0.Time), (.int .i64 a0.Seq), (.int .i64 a0.Rep)])] [] [] ∧ e' = false) ?_ ?_
    · revert H
      cases hc3 : ((decide (a0.Time ≥ 0)) && (decide (a0.Time ≤ 1099511627776)))
      · intro H
        refine WO.by rfl rfl rfl ?_
        refine WO.by rfl rfl rfl ?_
        refine WO.by rfl rfl rfl ?_
        refine WO.step (v := (.bool false)) rfl (nz rfl rfl) ?_
        refine WO.nil ?_
        exact ⟨(known_cons rfl (known_cons rfl known_nil)), H, rfl⟩
      · intro H
        refine WO.go0 rfl rfl ?_
        refine WO.step (v := (.ptr i1 1)) rfl (nz rfl rfl) ?_
        refine WO.go0 rfl rfl ?_
        refine WO.step (v := (.int .i64 a0.Seq)) rfl (nz rfl (stp_load rfl (H.get 0 rfl) rfl)) ?_
        refine WO.go0 rfl rfl ?_
        refine WO.step (v := (.bool (decide (a0.Seq ≥ 0)))) rfl (nz rfl rfl) ?_
        refine WO.step (v := (.bool (decide (a0.Seq ≥ 0)))) rfl (nz rfl rfl) ?_
        refine WO.nil ?_
        exact ⟨(known_cons rfl (known_cons rfl known_nil)), H, rfl⟩
    · rintro σ S e ⟨hk, H, rfl⟩
      refine WO.of_known hk ?_
      refine WO.step (v := (.bool (((decide (a0.Time ≥ 0)) && (decide (a0.Time ≤ 1099511627776))) && (decide (a0.Seq ≥ 0))))) rfl (nz rfl rfl) ?_
      refine WO.split 4 (fun σ' S' e' => Known ([(1, (.ptr i1 0)), (20, (.bool ((((decide (a0.Time ≥ 0)) && (decide (a0.Time ≤ 1099511627776))) && (decide (a0.Seq ≥ 0))) && (decide (a0.Seq ≤ 65535)))))]) σ' ∧ Hp [] [] S' [(i1, .cells [(.int .i64 a0.Time), (.int .i64 a0.Seq), (.int .i64 a0.Rep)])] [] [] ∧ e' = false) ?_ ?_
      · revert H
        cases hc4 : (((decide (a0.Time ≥ 0)) && (decide (a0.Time ≤ 1099511627776))) && (decide (a0.Seq ≥ 0)))
        · intro H
          refine WO.by rfl rfl rfl ?_
          refine WO.by rfl rfl rfl ?_
          refine WO.by rfl rfl rfl ?_
          refine WO.step (v := (.bool false)) rfl (nz rfl rfl) ?_
          refine WO.nil ?_
          exact ⟨(known_cons rfl (known_cons rfl known_nil)), H, rfl⟩
        · intro H
          refine WO.go0 rfl rfl ?_
          refine WO.step (v := (.ptr i1 1)) rfl (nz rfl rfl) ?_
          refine WO.go0 rfl rfl ?_
          refine WO.step (v := (.int .i64 a0.Seq)) rfl (nz rfl (stp_load rfl (H.get 0 rfl) rfl)) ?_
          refine WO.go0 rfl rfl ?_
          refine WO.step (v := (.bool (decide (a0.Seq ≤ 65535)))) rfl (nz rfl rfl) ?_
          refine WO.step (v := (.bool (decide (a0.Seq ≤ 65535)))) rfl (nz rfl rfl) ?_
          refine WO.nil ?_
          exact ⟨(known_cons rfl (known_cons rfl known_nil)), H, rfl⟩
      · rintro σ S e ⟨hk, H, rfl⟩
        refine WO.of_known hk ?_
        refine WO.step (v := (.bool ((((decide (a0.Time ≥ 0)) && (decide (a0.Time ≤ 1099511627776))) && (decide (a0.Seq ≥ 0))) && (decide (a0.Seq ≤ 65535))))) rfl (nz rfl rfl) ?_
        refine WO.split 4 (fun σ' S' e' => Known ([(1, (.ptr i1 0)), (25, (.bool (((((decide (a0.Time ≥ 0)) && (decide (a0.Time ≤ 1099511627776))) && (decide (a0.Seq ≥ 0))) && (decide (a0.Seq ≤ 65535))) && (decide (a0.Rep ≥ 0)))))]) σ' ∧ Hp [] [] S' [(i1, .cells [(.int .i64 a0.Time), (.int .i64 a0.Seq), (.int .i64 a0.Rep)])] [] [] ∧ e' = false) ?_ ?_
        · revert H
          cases hc5 : ((((decide (a0.Time ≥ 0)) && (decide (a0.Time ≤ 1099511627776))) && (decide (a0.Seq ≥ 0))) && (decide (a0.Seq ≤ 65535)))
          · intro H
            refine WO.by rfl rfl rfl ?_
            refine WO.by rfl rfl rfl ?_
            refine WO.by rfl rfl rfl ?_
            refine WO.step (v := (.bool false)) rfl (nz rfl rfl) ?_
            refine WO.nil ?_
            exact ⟨(known_cons rfl (known_cons rfl known_nil)), H, rfl⟩
          · intro H
            refine WO.go0 rfl rfl ?_
            refine WO.step (v := (.ptr i1 2)) rfl (nz rfl rfl) ?_
            refine WO.go0 rfl rfl ?_
            refine WO.step (v := (.int .i64 a0.Rep)) rfl (nz rfl (stp_load rfl (H.get 0 rfl) rfl)) ?_
            refine WO.go0 rfl rfl ?_
            refine WO.step (v := (.bool (decide (a0.Rep ≥ 0)))) rfl (nz rfl rfl) ?_
            refine WO.step (v := (.bool (decide (a0.Rep ≥ 0)))) rfl (nz rfl rfl) ?_
            refine WO.nil ?_
            exact ⟨(known_cons rfl (known_cons rfl known_nil)), H, rfl⟩
        · rintro σ S e ⟨hk, H, rfl⟩
          refine WO.of_known hk ?_
          refine WO.step (v := (.bool (((((decide (a0.Time ≥ 0)) && (decide (a0.Time ≤ 1099511627776))) && (decide (a0.Seq ≥ 0))) && (decide (a0.Seq ≤ 65535))) && (decide (a0.Rep ≥ 0))))) rfl (nz rfl rfl) ?_
          refine WO.split 4 (fun σ' S' e' => Known ([(30, (.bool ((((((decide (a0.Time ≥ 0)) && (decide (a0.Time ≤ 1099511627776))) && (decide (a0.Seq ≥ 0))) && (decide (a0.Seq ≤ 65535))) && (decide (a0.Rep ≥ 0))) && (decide (a0.Rep < 6)))))]) σ' ∧ Hp [] [] S' [(i1, .cells [(.int .i64 a0.Time), (.int .i64 a0.Seq), (.int .i64 a0.Rep)])] [] [] ∧ e' = false) ?_ ?_
          · revert H
            cases hc6 : (((((decide (a0.Time ≥ 0)) && (decide (a0.Time ≤ 1099511627776))) && (decide (a0.Seq ≥ 0))) && (decide (a0.Seq ≤ 65535))) && (decide (a0.Rep ≥ 0)))
            · intro H
              refine WO.by rfl rfl rfl ?_
              refine WO.by rfl rfl rfl ?_
              refine WO.by rfl rfl rfl ?_
              refine WO.step (v := (.bool false)) rfl (nz rfl rfl) ?_
              refine WO.nil ?_
              exact ⟨(known_cons rfl known_nil), H, rfl⟩
            · intro H
              refine WO.go0 rfl rfl ?_
              refine WO.step (v := (.ptr i1 2)) rfl (nz rfl rfl) ?_
              refine WO.go0 rfl rfl ?_
              refine WO.step (v := (.int .i64 a0.Rep)) rfl (nz rfl (stp_load rfl (H.get 0 rfl) rfl)) ?_
              refine WO.go0 rfl rfl ?_
              refine WO.step (v := (.bool (decide (a0.Rep < 6)))) rfl (nz rfl rfl) ?_
              refine WO.step (v := (.bool (decide (a0.Rep < 6)))) rfl (nz rfl rfl) ?_
              refine WO.nil ?_
              exact ⟨(known_cons rfl known_nil), H, rfl⟩
          · rintro σ S e ⟨hk, H, rfl⟩
            refine WO.of_known hk ?_
            refine WO.step (v := (.bool ((((((decide (a0.Time ≥ 0)) && (decide (a0.Time ≤ 1099511627776))) && (decide (a0.Seq ≥ 0))) && (decide (a0.Seq ≤ 65535))) && (decide (a0.Rep ≥ 0))) && (decide (a0.Rep < 6))))) rfl (nz rfl rfl) ?_
            refine WO.nil ?_
            refine WC.ret ?_
            obtain rfl := Option.some.inj h
            refine KB.ret (vs := [(.bool ((((((decide (a0.Time ≥ 0)) && (decide (a0.Time ≤ 1099511627776))) && (decide (a0.Seq ≥ 0))) && (decide (a0.Seq ≤ 65535))) && (decide (a0.Rep ≥ 0))) && (decide (a0.Rep < 6))))]) (res_tmp rfl res_nil) (fl_cons' rfl rfl) ?_
            exact rfl
-- 83 prefect/vector.Is
def F83_L0 (k : Nat) (a58 : Sl Api_CSN) (a59 : Int) : Nat → Int → Option (Out Bool Int)
  | 0, _ => none
  | n + 1, x60 =>
    if decide (x60 < a59) then
    Option.bind (Sl.at? a58 x60) fun y74 =>
    Option.bind (if (decide (x60 ≥ 6)) || (y74.Rep != x60) then
    some true
    else
    Option.bind (F73 k y74) fun y82 =>
    some (!y82)) fun y81 =>
    if y81 then
    some (Out.ret false)
    else
    F83_L0 k a58 a59 n (ad .i64 x60 1)
    else
    some (Out.brk x60)
/-- prefect/vector.Is -/
def F83 (k : Nat) (a0 : Sl Api_CSN) : Option Bool :=
  Option.bind (F83_L0 k a0 (Sl.len a0) k 0) fun y87 =>
  match y87 with
  | .ret y87r => some y87r
  | .brk y87b =>
  some true
theorem l83_L0 {k : Nat} {a58 : Sl Api_CSN} {a59 : Int} {S0 : List SObj} {R : List Nat} {K : KX}  {o : Out Bool Int}
    (hret : ∀ r : Bool, o = .ret r → ∀ {σ' : Nat → PV} {S' : List SObj}, Known [(2, (.bool r))] σ' → Hp S0 R S' [] [] [] → K .ret σ' S' false)
    (hbrk : ∀ y : Int, o = .brk y → ∀ {σ' : Nat → PV} {S' : List SObj}, Known [] σ' → Hp S0 R S' [] [] [] → K (.exit 0) σ' S' false) :
    ∀ {n : Nat} {x60 : Int}, F83_L0 k a58 a59 n x60 = some o → ∀ {σ : Nat → PV} {S : List SObj}, Known [(5, (encSl e_Api_CSN a58)), (6, (.int .i64 a59)), (7, (.int .i64 x60))] σ → Hp S0 R S [] [] [] → WC env ⟨26, S0.length⟩ (.loop pc83L0) σ S false K := by
  intro n
  induction n with
  | zero => intro _ h; cases h
  | succ n ih =>
    intro x60 h σ S  hk H
    rw [F83_L0] at h
    refine WC.loop ?_
    refine WC.of_known hk ?_
    refine WC.seqR ?_
    refine WO.step (v := (.bool (decide (x60 < a59)))) rfl (nz rfl rfl) ?_
    refine WO.nil ?_
    refine WC.seq ?_
    rcases iteS h with ⟨hc86, h⟩ | ⟨hc86, h⟩
    · refine WC.condT rfl hc86 ?_
      refine WC.skip ?_
      refine KX.seq_n ?_
      refine WC.seq ?_
      refine WC.block ?_
      refine WC.seqR ?_
      refine WO.step (v := (.int .i64 x60)) rfl (nz rfl rfl) ?_
      obtain ⟨y74, hy74, h⟩ := bindS h
      refine WO.step (v := (.iptr [(.int .i64 y74.Time), (.int .i64 y74.Seq), (.int .i64 y74.Rep)] 0)) rfl (nz rfl (stp_idxAddr rfl (isSl_enc _ _) rfl rfl rfl hy74 (e_Api_CSN_cells _) rfl)) ?_
      refine WO.step (v := (.agg [(.int .i64 y74.Time), (.int .i64 y74.Seq), (.int .i64 y74.Rep)])) rfl (nz rfl rfl) ?_
      refine WO.alloc' (ti := ty30) rfl rfl rfl rfl H ?_
      intro i75 S hi75 H
      refine WO.step (v := (.int .i64 x60)) rfl (nz rfl rfl) ?_
      refine WO.store 0 rfl rfl H rfl rfl rfl rfl rfl rfl rfl (Nat.le_of_ble_eq_true rfl) rfl (own_e hi75) ?_
      intro S H
      replace H : Hp S0 R _ [(i75, .cells [(.int .i64 y74.Time), (.int .i64 y74.Seq), (.int .i64 y74.Rep)])] [] [] := H
      refine WO.nil ?_
      refine WC.seqR ?_
      refine WO.step (v := (.int .i64 x60)) rfl (nz rfl rfl) ?_
      refine WO.step (v := (.bool (decide (x60 ≥ 6)))) rfl (nz rfl rfl) ?_
      refine WO.step (v := (.bool (decide (x60 ≥ 6)))) rfl (nz rfl rfl) ?_
      refine WO.split 5 (fun σ' S' e' => Known ([(4, (.ptr i75 0)), (5, (encSl e_Api_CSN a58)), (6, (.int .i64 a59)), (7, (.int .i64 x60)), (19, (.bool ((decide (x60 ≥ 6)) || (y74.Rep != x60))))]) σ' ∧ Hp S0 R S' [(i75, .cells [(.int .i64 y74.Time), (.int .i64 y74.Seq), (.int .i64 y74.Rep)])] [] [] ∧ e' = false) ?_ ?_
      · revert H
        cases hc76 : (decide (x60 ≥ 6))
        · intro H
          refine WO.go0 rfl rfl ?_
          refine WO.step (v := (.ptr i75 2)) rfl (nz rfl rfl) ?_
          refine WO.go0 rfl rfl ?_
          refine WO.step (v := (.int .i64 y74.Rep)) rfl (nz rfl (stp_load rfl (H.get 0 rfl) rfl)) ?_
          refine WO.go0 rfl rfl ?_
          refine WO.step (v := (.int .i64 x60)) rfl (nz rfl rfl) ?_
          refine WO.go0 rfl rfl ?_
          refine WO.step (v := (.bool (y74.Rep != x60))) rfl (nz rfl rfl) ?_
          refine WO.step (v := (.bool (y74.Rep != x60))) rfl (nz rfl rfl) ?_
          refine WO.nil ?_
          exact ⟨(known_cons rfl (known_cons rfl (known_cons rfl (known_cons rfl (known_cons rfl known_nil))))), H, rfl⟩
        · intro H
          refine WO.by rfl rfl rfl ?_
          refine WO.by rfl rfl rfl ?_
          refine WO.by rfl rfl rfl ?_
          refine WO.by rfl rfl rfl ?_
          refine WO.step (v := (.bool true)) rfl (nz rfl rfl) ?_
          refine WO.nil ?_
          exact ⟨(known_cons rfl (known_cons rfl (known_cons rfl (known_cons rfl (known_cons rfl known_nil))))), H, rfl⟩
      · rintro σ S e ⟨hk, H, rfl⟩
        refine WO.of_known hk ?_
        refine WO.step (v := (.bool ((decide (x60 ≥ 6)) || (y74.Rep != x60)))) rfl (nz rfl rfl) ?_
        obtain ⟨y81, hy81, hOy81⟩ := bindS h
        refine WO.split 4 (fun σ' S' e' => Known ([(5, (encSl e_Api_CSN a58)), (6, (.int .i64 a59)), (7, (.int .i64 x60)), (24, (.bool y81))]) σ' ∧ Hp S0 R S' [(i75, .cells [(.int .i64 y74.Time), (.int .i64 y74.Seq), (.int .i64 y74.Rep)])] [] [] ∧ e' = false) ?_ ?_
        · replace h := hy81
          revert H
          cases hc83 : ((decide (x60 ≥ 6)) || (y74.Rep != x60))
          · intro H
            replace h := iteF h hc83
            refine WO.go0 rfl rfl ?_
            refine WO.step (v := (.agg [(.int .i64 y74.Time), (.int .i64 y74.Seq), (.int .i64 y74.Rep)])) rfl (nz rfl (stp_load rfl (H.get 0 rfl) rfl)) ?_
            refine WO.go0 rfl rfl ?_
            obtain ⟨y82, hy82, h⟩ := bindS h
            refine WO.step (v := (.bool y82)) rfl (nz rfl (stp_call (vs := [(.agg [(.int .i64 y74.Time), (.int .i64 y74.Seq), (.int .i64 y74.Rep)])]) rfl rfl (s73 _ hy82 rfl _))) ?_
            refine WO.go0 rfl rfl ?_
            refine WO.step (v := (.bool (!y82))) rfl (nz rfl rfl) ?_
            refine WO.step (v := (.bool (!y82))) rfl (nz rfl rfl) ?_
            refine WO.nil ?_
            obtain rfl := Option.some.inj h
            exact ⟨(known_cons rfl (known_cons rfl (known_cons rfl (known_cons rfl known_nil)))), (H.sub (.cons_cons _ .slnil) .slnil .slnil), rfl⟩
          · intro H
            replace h := iteT h hc83
            refine WO.by rfl rfl rfl ?_
            refine WO.by rfl rfl rfl ?_
            refine WO.by rfl rfl rfl ?_
            refine WO.step (v := (.bool true)) rfl (nz rfl rfl) ?_
            refine WO.nil ?_
            obtain rfl := Option.some.inj h
            exact ⟨(known_cons rfl (known_cons rfl (known_cons rfl (known_cons rfl known_nil)))), (H.sub (.cons_cons _ .slnil) .slnil .slnil), rfl⟩
        · rintro σ S e ⟨hk, H, rfl⟩
          replace h := hOy81
          refine WO.of_known hk ?_
          refine WO.nil ?_
          rcases iteS h with ⟨hc85, h⟩ | ⟨hc85, h⟩
          · refine WC.condT rfl hc85 ?_
            refine WC.seqR ?_
            refine WO.step (v := (.bool false)) rfl (nz rfl rfl) ?_
            refine WO.nil ?_
            refine WC.ret ?_
            refine KX.block_r ?_
            refine KX.seq_r ?_
            refine KX.seq_r ?_
            obtain rfl := Option.some.inj h
            exact hret _ rfl (known_cons rfl known_nil) (H.sub (.cons _ .slnil) .slnil .slnil)
          · refine WC.condF rfl hc85 ?_
            refine WC.skip ?_
            refine KX.block_n ?_
            refine KX.seq_n ?_
            refine WC.region ?_
            refine WO.step (v := (.int .i64 (ad .i64 x60 1))) rfl (nz rfl rfl) ?_
            refine WO.step (v := (.int .i64 (ad .i64 x60 1))) rfl (nz rfl rfl) ?_
            refine WO.nil ?_
            refine KX.seq_n ?_
            exact ih h  (known_cons rfl (known_cons rfl (known_cons rfl known_nil))) (H.sub (.cons _ .slnil) .slnil .slnil)
    · refine WC.condF rfl hc86 ?_
      refine WC.exit ?_
      refine KX.seq_x ?_
      refine KX.seq_x ?_
      obtain rfl := Option.some.inj h
      exact hbrk _ rfl  known_nil (H.sub .slnil .slnil .slnil)
theorem s83 : ∀ k : Nat, ∀ {a0 : Sl Api_CSN} {r : Bool}, F83 k a0 = some r → ∀ {vs : List PV}, vs.map PV.strip = [(encSl e_Api_CSN a0)] → ∀ S : List SObj, evw env 83 vs S = some ((.bool r), S, false) := by
  intro k a0 r h vs ha S
  unfold F83 at h
  refine evw_pureW (pf := fn83) rfl rfl ha (Nat.le_of_ble_eq_true rfl) (by simp [PV.clean, cleanL, clean_encSl clean_Api_CSN]) rfl ?_
  refine WB.of (pf := fn83) rfl ?_
  have H := Hp.start []
  refine WC.seqR ?_
  refine WO.step (v := (.bool false)) rfl (nz rfl rfl) ?_
  refine WO.nil ?_
  refine WC.seq ?_
  refine WC.seqR ?_
  refine WO.step (v := (encSl e_Api_CSN a0)) rfl (nz rfl rfl) ?_
  refine WO.step (v := (.int .i64 (Sl.len a0))) rfl (nz rfl (stp_len rfl (isSl_enc _ _) rfl)) ?_
  refine WO.step (v := (.int .i64 0)) rfl (nz rfl rfl) ?_
  refine WO.nil ?_
  obtain ⟨y87, hy87, hOy87⟩ := bindS h
  refine WC.block ?_
  refine l83_L0 ?_ ?_ hy87  (known_cons rfl (known_cons rfl (known_cons rfl known_nil))) (H.sub .slnil .slnil .slnil)
  · intro y87r he σ S  hk H; subst he; replace h := hOy87; dsimp only at h
    refine KX.of_known hk ?_
    refine KX.block_r ?_
    refine KX.seq_r ?_
    obtain rfl := Option.some.inj h
    refine KB.ret (vs := [(.bool y87r)]) (res_tmp rfl res_nil) (fl_cons' rfl rfl) ?_
    exact rfl
  · intro y87b he σ S  hk H; subst he; replace h := hOy87; dsimp only at h
    refine KX.of_known hk ?_
    refine KX.block_x ?_
    refine KX.seq_n ?_
    refine WC.seqR ?_
    refine WO.step (v := (.bool true)) rfl (nz rfl rfl) ?_
    refine WO.nil ?_
    refine WC.ret ?_
    obtain rfl := Option.some.inj h
    refine KB.ret (vs := [(.bool true)]) (res_tmp rfl res_nil) (fl_cons' rfl rfl) ?_
    exact rfl
end Go.Proofs.YtbondebiijokaaaGreatDoor.M
