/- Part of the proof: the runs of functions on the abstract machine. -/
import Derived.Test.YthcchjhieolflaaPam33
import Derived.Test.YthcchjhieolflaaFns
import Derived.Test.YthcchjhieolflaaDVe
namespace Go.Proofs.Ythcchjhieolflaa.M
open Go Go.Pam Go.RowKit Go.WideShapes
set_option maxRecDepth 4000
set_option linter.unusedVariables false
set_option linter.unusedSimpArgs false

-- 20 prefect/vector.New
def F20_L0 (k : Nat) (a30 : Int) : Nat → (Sl Api_CSN) → Int → Option ((Sl Api_CSN) × Int)
  | 0, _, _ => none
  | n + 1, x28, x31 =>
    if decide (x31 < a30) then
    Option.bind (Sl.app? 24 x28 (Sl.l (some [(Api_CSN.mk 0 0 x31)]))) fun z37 =>
    F20_L0 k a30 n z37 (ad .i64 x31 1)
    else
    some (x28, x31)
/-- prefect/vector.New -/
def F20 (k : Nat) (a0 : Int) : Option (Sl Api_CSN) :=
  Option.bind (F20_L0 k (imin (imax a0 0) 6) k none 0) fun y41 =>
  some y41.1
theorem l20_L0 {k : Nat} {a30 : Int} {S0 : List SObj} {R : List Nat} {K : KX}  {o : ((Sl Api_CSN) × Int)}
    (hbrk : ∀ {σ' : Nat → PV} {S' : List SObj}, ∀ (v40 : PV) (_ : IsSl e_Api_CSN o.1 v40), Known [(3, v40), (8, (.int .i64 o.2))] σ' → Hp S0 R S' [] [(v40, 3)] [] → K (.exit 0) σ' S' false) :
    ∀ {n : Nat} {x28 : Sl Api_CSN} {x31 : Int}, F20_L0 k a30 n x28 x31 = some o → ∀ {σ : Nat → PV} {S : List SObj}, ∀ (v29 : PV) (_ : IsSl e_Api_CSN x28 v29), Known [(3, v29), (7, (.int .i64 a30)), (8, (.int .i64 x31))] σ → Hp S0 R S [] [(v29, 3)] [] → WC env ⟨18, S0.length⟩ (.loop pc20L0) σ S false K := by
  intro n
  induction n with
  | zero => intro _ _ h; cases h
  | succ n ih =>
    intro x28 x31 h σ S v29 hv29 hk H
    rw [F20_L0] at h
    refine WC.loop ?_
    refine WC.of_known hk ?_
    refine WC.seqR ?_
    refine WO.step (v := (.bool (decide (x31 < a30)))) rfl (nz rfl rfl) ?_
    refine WO.nil ?_
    refine WC.seq ?_
    rcases iteS h with ⟨hc39, h⟩ | ⟨hc39, h⟩
    · refine WC.condT rfl hc39 ?_
      refine WC.skip ?_
      refine KX.seq_n ?_
      refine WC.seq ?_
      refine WC.block ?_
      refine WC.seqR ?_
      refine WO.step (v := (.int .i64 x31)) rfl (nz rfl rfl) ?_
      refine WO.step (v := (.int .i64 x31)) rfl (nz rfl rfl) ?_
      refine WO.nil ?_
      refine WC.region ?_
      refine WO.step (v := v29) rfl (nz rfl rfl) ?_
      refine WO.step (v := (.int .i64 x31)) rfl (nz rfl rfl) ?_
      refine WO.step (v := (.agg [(.int .i64 0), (.int .i64 0), (.int .i64 x31)])) rfl (nz rfl (stp_build (ti := ty50) rfl rfl rfl rfl rfl (fill_cons rfl rfl rfl rfl (Nat.le_of_ble_eq_true rfl) rfl rfl))) ?_
      refine WO.step rfl (nz rfl (stp_buildSlice (ys := [(Api_CSN.mk 0 0 x31)]) (f := e_Api_CSN) (parts := [(0, (.agg [(.int .i64 0), (.int .i64 0), (.int .i64 x31)]))]) rfl rfl rfl rfl rfl rfl (fc ⟨rfl, rfl⟩ (fun p hp => nomatch hp)) rfl)) ?_
      have hv36 : IsSl e_Api_CSN (some [(Api_CSN.mk 0 0 x31)]) _ := ⟨.full, rfl⟩
      obtain ⟨z37, hz37, h⟩ := bindS h
      refine WO.ex rfl (nzx (fz_tmp' hv36.frz rfl) (stp_app (f := e_Api_CSN) (ei := ty50) H 0 rfl rfl hv29 rfl hv36 rfl rfl rfl rfl (fun a => (e_Api_CSN_one a).2.1) hz37)) ?_
      rintro v38 S ⟨hv38, H⟩
      replace H : Hp S0 R _ [] [(v38, 3)] [] := H
      refine WO.step (v := v38) rfl (nz rfl rfl) ?_
      refine WO.nil ?_
      refine KX.block_n ?_
      refine KX.seq_n ?_
      refine WC.region ?_
      refine WO.step (v := (.int .i64 (ad .i64 x31 1))) rfl (nz rfl rfl) ?_
      refine WO.step (v := (.int .i64 (ad .i64 x31 1))) rfl (nz rfl rfl) ?_
      refine WO.nil ?_
      refine KX.seq_n ?_
      exact ih h v38 (hv38) (known_cons rfl (known_cons rfl (known_cons rfl known_nil))) (H.sub .slnil (.cons_cons _ .slnil) .slnil)
    · refine WC.condF rfl hc39 ?_
      refine WC.exit ?_
      refine KX.seq_x ?_
      refine KX.seq_x ?_
      obtain rfl := Option.some.inj h
      exact hbrk v29 (hv29) (known_cons rfl (known_cons rfl known_nil)) (H.sub .slnil (.cons_cons _ .slnil) .slnil)
theorem s20 : ∀ k : Nat, ∀ {a0 : Int} {r : (Sl Api_CSN)}, F20 k a0 = some r → ∀ {vs : List PV}, vs.map PV.strip = [(.int .i64 a0)] → ∀ S : List SObj, evw env 20 vs S = some ((encSl e_Api_CSN r), S, false) := by
  intro k a0 r h vs ha S
  unfold F20 at h
  refine evw_pureW (pf := fn20) rfl rfl ha (Nat.le_of_ble_eq_true rfl) rfl (by simp [PV.clean, cleanL, clean_encSl clean_Api_CSN]) ?_
  refine WB.of (pf := fn20) rfl ?_
  have H := Hp.start []
  refine WC.seqR ?_
  refine WO.step (v := .nils) rfl (nz rfl rfl) ?_
  refine WO.nil ?_
  refine WC.seqR ?_
  refine WO.step (v := .nils) rfl (nz rfl rfl) ?_
  refine WO.nil ?_
  refine WC.seq ?_
  refine WC.seqR ?_
  refine WO.step (v := (.int .i64 a0)) rfl (nz rfl rfl) ?_
  refine WO.step (v := (.int .i64 (imax a0 0))) rfl (nz rfl rfl) ?_
  refine WO.step (v := (.int .i64 (imin (imax a0 0) 6))) rfl (nz rfl rfl) ?_
  refine WO.step (v := (.int .i64 0)) rfl (nz rfl rfl) ?_
  refine WO.nil ?_
  obtain ⟨y41, hy41, hOy41⟩ := bindS h
  refine WC.block ?_
  have H := H.addNil 3
  refine l20_L0 ?_ hy41 .nils ((isSl_nil _)) (known_cons rfl (known_cons rfl (known_cons rfl known_nil))) (H.sub .slnil (.cons_cons _ .slnil) .slnil)
  · intro σ S v42 hv42 hk H; replace h := hOy41
    refine KX.of_known hk ?_
    refine KX.block_x ?_
    refine KX.seq_n ?_
    refine WC.seqR ?_
    refine WO.step (v := v42) rfl (nz rfl rfl) ?_
    refine WO.step (v := v42) rfl (nz rfl rfl) ?_
    refine WO.nil ?_
    refine WC.ret ?_
    obtain rfl := Option.some.inj h
    refine KB.ret (vs := [v42]) (res_tmp rfl res_nil) (fl_cons' hv42.frz rfl) ?_
    exact (by simp only [st_tup, List.map_cons, List.map_nil, tupled, hv42.strip])
-- 44 prefect/csn.Is
/-- prefect/csn.Is -/
def F44 (k : Nat) (a0 : Api_CSN) : Option Bool :=
  some ((((((decide (a0.Time ≥ 0)) && (decide (a0.Time ≤ 1099511627776))) && (decide (a0.Seq ≥ 0))) && (decide (a0.Seq ≤ 65535))) && (decide (a0.Rep ≥ 0))) && (decide (a0.Rep < 6)))
theorem s44 : ∀ k : Nat, ∀ {a0 : Api_CSN} {r : Bool}, F44 k a0 = some r → ∀ {vs : List PV}, vs.map PV.strip = [(.agg [(.int .i64 a0.Time), (.int .i64 a0.Seq), (.int .i64 a0.Rep)])] → ∀ S : List SObj, evw env 44 vs S = some ((.bool r), S, false) := by
  intro k a0 r h vs ha S
  unfold F44 at h
  refine evw_pureW (pf := fn44) rfl rfl ha (Nat.le_of_ble_eq_true rfl) rfl rfl ?_
  refine WB.of (pf := fn44) rfl ?_
  have H := Hp.start []
  refine WC.seqR ?_
  refine WO.box' rfl rfl rfl rfl rfl H ?_
  intro i1 S hi1 H
  refine WO.step (v := (.bool false)) rfl (nz rfl rfl) ?_
  refine WO.nil ?_
  refine WC.seqR ?_
  refine WO.step (v := (.ptr i1 0)) rfl (nz rfl rfl) ?_
  refine WO.step (v := (.int .i64 a0.Time)) rfl (nz rfl (stp_load rfl (H.get 0 rfl) rfl)) ?_
  refine WO.step (v := (.bool (decide (a0.Time ≥ 0)))) rfl (nz rfl rfl) ?_
  refine WO.step (v := (.bool (decide (a0.Time ≥ 0)))) rfl (nz rfl rfl) ?_
  refine WO.split 4 (fun σ' S' e' => Known ([(1, (.ptr i1 0)), (10, (.bool ((decide (a0.Time ≥ 0)) && (decide (a0.Time ≤ 1099511627776)))))]) σ' ∧ Hp [] [] S' [(i1, .cells [(.int .i64 a0.Time), (.int .i64 a0.Seq), (.int .i64 a0.Rep)])] [] [] ∧ e' = false) ?_ ?_
  · cases hc2 : (decide (a0.Time ≥ 0))
    · skip
      refine WO.by rfl rfl rfl ?_
      refine WO.by rfl rfl rfl ?_
      refine WO.by rfl rfl rfl ?_
      refine WO.step (v := (.bool false)) rfl (nz rfl rfl) ?_
      refine WO.nil ?_
      exact ⟨(known_cons rfl (known_cons rfl known_nil)), H, rfl⟩
    · skip
      refine WO.go0 rfl rfl ?_
      refine WO.step (v := (.ptr i1 0)) rfl (nz rfl rfl) ?_
      refine WO.go0 rfl rfl ?_
      refine WO.step (v := (.int .i64 a0.Time)) rfl (nz rfl (stp_load rfl (H.get 0 rfl) rfl)) ?_
      refine WO.go0 rfl rfl ?_
      refine WO.step (v := (.bool (decide (a0.Time ≤ 1099511627776)))) rfl (nz rfl rfl) ?_
      refine WO.step (v := (.bool (decide (a0.Time ≤ 1099511627776)))) rfl (nz rfl rfl) ?_
      refine WO.nil ?_
      exact ⟨(known_cons rfl (known_cons rfl known_nil)), H, rfl⟩
  · rintro σ S e ⟨hk, H, rfl⟩
    refine WO.of_known hk ?_
    refine WO.step (v := (.bool ((decide (a0.Time ≥ 0)) && (decide (a0.Time ≤ 1099511627776))))) rfl (nz rfl rfl) ?_
    refine WO.split 4 (fun σ' S' e' => Known ([(1, (.ptr i1 0)), (15, (.bool (((decide (a0.Time ≥ 0)) && (decide (a0.Time ≤ 1099511627776))) && (decide (a0.Seq ≥ 0)))))]) σ' ∧ Hp [] [] S' [(i1, .cells [(.int .i64 a0.Time), (.int .i64 a0.Seq), (.int .i64 a0.Rep)])] [] [] ∧ e' = false) ?_ ?_
    · cases hc3 : ((decide (a0.Time ≥ 0)) && (decide (a0.Time ≤ 1099511627776)))
      · skip
        refine WO.by rfl rfl rfl ?_
        refine WO.by rfl rfl rfl ?_
        refine WO.by rfl rfl rfl ?_
        refine WO.step (v := (.bool false)) rfl (nz rfl rfl) ?_
        refine WO.nil ?_
        exact ⟨(known_cons rfl (known_cons rfl known_nil)), H, rfl⟩
      · skip
        refine WO.go0 rfl rfl ?_
        refine WO.step (v := (.ptr i1 1)) rfl (nz rfl rfl) ?_
        refine WO.go0 rfl rfl ?_
        refine WO.step (v := (.int .i64 a0.Seq)) rfl (nz rfl (stp_load rfl (H.get 0 rfl) rfl)) ?_
        refine WO.go0 rfl rfl ?_
        refine WO.step (v := (.bool (decide (a0.Seq ≥ 0)))) rfl (nz rfl rfl) ?_
        refine WO.step (v := (.bool (decide (a0.Seq ≥ 0)))) rfl (nz rfl rfl) ?_
        refine WO.nil ?_
        exact ⟨(known_cons rfl (known_cons rfl known_nil)), H, rfl⟩
    · rintro σ S e ⟨hk, H, rfl⟩
      refine WO.of_known hk ?_
      refine WO.step (v := (.bool (((decide (a0.Time ≥ 0)) && (decide (a0.Time ≤ 1099511627776))) && (decide (a0.Seq ≥ 0))))) rfl (nz rfl rfl) ?_
      refine WO.split 4 (fun σ' S' e' => Known ([(1, (.ptr i1 0)), (20, (.bool ((((decide (a0.Time ≥ 0)) && (decide (a0.Time ≤ 1099511627776))) && (decide (a0.Seq ≥ 0))) && (decide (a0.Seq ≤ 65535)))))]) σ' ∧ Hp [] [] S' [(i1, .cells [(.int .i64 a0.Time), (.int .i64 a0.Seq), (.int .i64 a0.Rep)])] [] [] ∧ e' = false) ?_ ?_
      · cases hc4 : (((decide (a0.Time ≥ 0)) && (decide (a0.Time ≤ 1099511627776))) && (decide (a0.Seq ≥ 0)))
        · skip
          refine WO.by rfl rfl rfl ?_
          refine WO.by rfl rfl rfl ?_
          refine WO.by rfl rfl rfl ?_
          refine WO.step (v := (.bool false)) rfl (nz rfl rfl) ?_
          refine WO.nil ?_
          exact ⟨(known_cons rfl (known_cons rfl known_nil)), H, rfl⟩
        · skip
          refine WO.go0 rfl rfl ?_
          refine WO.step (v := (.ptr i1 1)) rfl (nz rfl rfl) ?_
          refine WO.go0 rfl rfl ?_
          refine WO.step (v := (.int .i64 a0.Seq)) rfl (nz rfl (stp_load rfl (H.get 0 rfl) rfl)) ?_
          refine WO.go0 rfl rfl ?_
          refine WO.step (v := (.bool (decide (a0.Seq ≤ 65535)))) rfl (nz rfl rfl) ?_
          refine WO.step (v := (.bool (decide (a0.Seq ≤ 65535)))) rfl (nz rfl rfl) ?_
          refine WO.nil ?_
          exact ⟨(known_cons rfl (known_cons rfl known_nil)), H, rfl⟩
      · rintro σ S e ⟨hk, H, rfl⟩
        refine WO.of_known hk ?_
        refine WO.step (v := (.bool ((((decide (a0.Time ≥ 0)) && (decide (a0.Time ≤ 1099511627776))) && (decide (a0.Seq ≥ 0))) && (decide (a0.Seq ≤ 65535))))) rfl (nz rfl rfl) ?_
        refine WO.split 4 (fun σ' S' e' => Known ([(1, (.ptr i1 0)), (25, (.bool (((((decide (a0.Time ≥ 0)) && (decide (a0.Time ≤ 1099511627776))) && (decide (a0.Seq ≥ 0))) && (decide (a0.Seq ≤ 65535))) && (decide (a0.Rep ≥ 0)))))]) σ' ∧ Hp [] [] S' [(i1, .cells [(.int .i64 a0.Time), (.int .i64 a0.Seq), (.int .i64 a0.Rep)])] [] [] ∧ e' = false) ?_ ?_
        · cases hc5 : ((((decide (a0.Time ≥ 0)) && (decide (a0.Time ≤ 1099511627776))) && (decide (a0.Seq ≥ 0))) && (decide (a0.Seq ≤ 65535)))
          · skip
            refine WO.by rfl rfl rfl ?_
            refine WO.by rfl rfl rfl ?_
            refine WO.by rfl rfl rfl ?_
            refine WO.step (v := (.bool false)) rfl (nz rfl rfl) ?_
            refine WO.nil ?_
            exact ⟨(known_cons rfl (known_cons rfl known_nil)), H, rfl⟩
          · skip
            refine WO.go0 rfl rfl ?_
            refine WO.step (v := (.ptr i1 2)) rfl (nz rfl rfl) ?_
            refine WO.go0 rfl rfl ?_
            refine WO.step (v := (.int .i64 a0.Rep)) rfl (nz rfl (stp_load rfl (H.get 0 rfl) rfl)) ?_
            refine WO.go0 rfl rfl ?_
            refine WO.step (v := (.bool (decide (a0.Rep ≥ 0)))) rfl (nz rfl rfl) ?_
            refine WO.step (v := (.bool (decide (a0.Rep ≥ 0)))) rfl (nz rfl rfl) ?_
            refine WO.nil ?_
            exact ⟨(known_cons rfl (known_cons rfl known_nil)), H, rfl⟩
        · rintro σ S e ⟨hk, H, rfl⟩
          refine WO.of_known hk ?_
          refine WO.step (v := (.bool (((((decide (a0.Time ≥ 0)) && (decide (a0.Time ≤ 1099511627776))) && (decide (a0.Seq ≥ 0))) && (decide (a0.Seq ≤ 65535))) && (decide (a0.Rep ≥ 0))))) rfl (nz rfl rfl) ?_
          refine WO.split 4 (fun σ' S' e' => Known ([(30, (.bool ((((((decide (a0.Time ≥ 0)) && (decide (a0.Time ≤ 1099511627776))) && (decide (a0.Seq ≥ 0))) && (decide (a0.Seq ≤ 65535))) && (decide (a0.Rep ≥ 0))) && (decide (a0.Rep < 6)))))]) σ' ∧ Hp [] [] S' [(i1, .cells [(.int .i64 a0.Time), (.int .i64 a0.Seq), (.int .i64 a0.Rep)])] [] [] ∧ e' = false) ?_ ?_
          · cases hc6 : (((((decide (a0.Time ≥ 0)) && (decide (a0.Time ≤ 1099511627776))) && (decide (a0.Seq ≥ 0))) && (decide (a0.Seq ≤ 65535))) && (decide (a0.Rep ≥ 0)))
            · skip
              refine WO.by rfl rfl rfl ?_
              refine WO.by rfl rfl rfl ?_
              refine WO.by rfl rfl rfl ?_
              refine WO.step (v := (.bool false)) rfl (nz rfl rfl) ?_
              refine WO.nil ?_
              exact ⟨(known_cons rfl known_nil), H, rfl⟩
            · skip
              refine WO.go0 rfl rfl ?_
              refine WO.step (v := (.ptr i1 2)) rfl (nz rfl rfl) ?_
              refine WO.go0 rfl rfl ?_
              refine WO.step (v := (.int .i64 a0.Rep)) rfl (nz rfl (stp_load rfl (H.get 0 rfl) rfl)) ?_
              refine WO.go0 rfl rfl ?_
              refine WO.step (v := (.bool (decide (a0.Rep < 6)))) rfl (nz rfl rfl) ?_
              refine WO.step (v := (.bool (decide (a0.Rep < 6)))) rfl (nz rfl rfl) ?_
              refine WO.nil ?_
              exact ⟨(known_cons rfl known_nil), H, rfl⟩
          · rintro σ S e ⟨hk, H, rfl⟩
            refine WO.of_known hk ?_
            refine WO.step (v := (.bool ((((((decide (a0.Time ≥ 0)) && (decide (a0.Time ≤ 1099511627776))) && (decide (a0.Seq ≥ 0))) && (decide (a0.Seq ≤ 65535))) && (decide (a0.Rep ≥ 0))) && (decide (a0.Rep < 6))))) rfl (nz rfl rfl) ?_
            refine WO.nil ?_
            refine WC.ret ?_
            obtain rfl := Option.some.inj h
            refine KB.ret (vs := [(.bool ((((((decide (a0.Time ≥ 0)) && (decide (a0.Time ≤ 1099511627776))) && (decide (a0.Seq ≥ 0))) && (decide (a0.Seq ≤ 65535))) && (decide (a0.Rep ≥ 0))) && (decide (a0.Rep < 6))))]) (res_tmp rfl res_nil) (fl_cons' rfl rfl) ?_
            exact rfl
-- 22 prefect/vector.Is
def F22_L0 (k : Nat) (a58 : Sl Api_CSN) (a59 : Int) : Nat → Int → Option (Out Bool Int)
  | 0, _ => none
  | n + 1, x60 =>
    if decide (x60 < a59) then
    Option.bind (Sl.at? a58 x60) fun y74 =>
    Option.bind (if (decide (x60 ≥ 6)) || (y74.Rep != x60) then
    some true
    else
    Option.bind (F44 k y74) fun y82 =>
    some (!y82)) fun y81 =>
    if y81 then
    some (Out.ret false)
    else
    F22_L0 k a58 a59 n (ad .i64 x60 1)
    else
    some (Out.brk x60)
/-- prefect/vector.Is -/
def F22 (k : Nat) (a0 : Sl Api_CSN) : Option Bool :=
  Option.bind (F22_L0 k a0 (Sl.len a0) k 0) fun y87 =>
  match y87 with
  | .ret y87r => some y87r
  | .brk y87b =>
  some true
theorem l22_L0 {k : Nat} {a58 : Sl Api_CSN} {a59 : Int} {S0 : List SObj} {R : List Nat} {K : KX}  {o : Out Bool Int}
    (hret : ∀ r : Bool, o = .ret r → ∀ {σ' : Nat → PV} {S' : List SObj}, Known [(2, (.bool r))] σ' → Hp S0 R S' [] [] [] → K .ret σ' S' false)
    (hbrk : ∀ y : Int, o = .brk y → ∀ {σ' : Nat → PV} {S' : List SObj}, Known [(7, (.int .i64 y))] σ' → Hp S0 R S' [] [] [] → K (.exit 0) σ' S' false) :
    ∀ {n : Nat} {x60 : Int}, F22_L0 k a58 a59 n x60 = some o → ∀ {σ : Nat → PV} {S : List SObj}, Known [(5, (encSl e_Api_CSN a58)), (6, (.int .i64 a59)), (7, (.int .i64 x60))] σ → Hp S0 R S [] [] [] → WC env ⟨26, S0.length⟩ (.loop pc22L0) σ S false K := by
  intro n
  induction n with
  | zero => intro _ h; cases h
  | succ n ih =>
    intro x60 h σ S  hk H
    rw [F22_L0] at h
    refine WC.loop ?_
    refine WC.of_known hk ?_
    refine WC.seqR ?_
    refine WO.step (v := (.bool (decide (x60 < a59)))) rfl (nz rfl rfl) ?_
    refine WO.nil ?_
    refine WC.seq ?_
    rcases iteS h with ⟨hc86, h⟩ | ⟨hc86, h⟩
    · refine WC.condT rfl hc86 ?_
      refine WC.skip ?_
      refine KX.seq_n ?_
      refine WC.seq ?_
      refine WC.block ?_
      refine WC.seqR ?_
      refine WO.step (v := (.int .i64 x60)) rfl (nz rfl rfl) ?_
      obtain ⟨y74, hy74, h⟩ := bindS h
      refine WO.step (v := (.iptr [(.int .i64 y74.Time), (.int .i64 y74.Seq), (.int .i64 y74.Rep)] 0)) rfl (nz rfl (stp_idxAddr rfl (isSl_enc _ _) rfl rfl rfl hy74 (e_Api_CSN_cells _) rfl)) ?_
      refine WO.step (v := (.agg [(.int .i64 y74.Time), (.int .i64 y74.Seq), (.int .i64 y74.Rep)])) rfl (nz rfl rfl) ?_
      refine WO.alloc' (ti := ty50) rfl rfl rfl rfl H ?_
      intro i75 S hi75 H
      refine WO.step (v := (.int .i64 x60)) rfl (nz rfl rfl) ?_
      refine WO.store 0 rfl rfl H rfl rfl rfl rfl rfl rfl rfl (Nat.le_of_ble_eq_true rfl) rfl (own_e hi75) ?_
      intro S H
      replace H : Hp S0 R _ [(i75, .cells [(.int .i64 y74.Time), (.int .i64 y74.Seq), (.int .i64 y74.Rep)])] [] [] := H
      refine WO.nil ?_
      refine WC.seqR ?_
      refine WO.step (v := (.int .i64 x60)) rfl (nz rfl rfl) ?_
      refine WO.step (v := (.bool (decide (x60 ≥ 6)))) rfl (nz rfl rfl) ?_
      refine WO.step (v := (.bool (decide (x60 ≥ 6)))) rfl (nz rfl rfl) ?_
      refine WO.split 5 (fun σ' S' e' => Known ([(4, (.ptr i75 0)), (5, (encSl e_Api_CSN a58)), (6, (.int .i64 a59)), (7, (.int .i64 x60)), (19, (.bool ((decide (x60 ≥ 6)) || (y74.Rep != x60))))]) σ' ∧ Hp S0 R S' [(i75, .cells [(.int .i64 y74.Time), (.int .i64 y74.Seq), (.int .i64 y74.Rep)])] [] [] ∧ e' = false) ?_ ?_
      · cases hc76 : (decide (x60 ≥ 6))
        · skip
          refine WO.go0 rfl rfl ?_
          refine WO.step (v := (.ptr i75 2)) rfl (nz rfl rfl) ?_
          refine WO.go0 rfl rfl ?_
          refine WO.step (v := (.int .i64 y74.Rep)) rfl (nz rfl (stp_load rfl (H.get 0 rfl) rfl)) ?_
          refine WO.go0 rfl rfl ?_
          refine WO.step (v := (.int .i64 x60)) rfl (nz rfl rfl) ?_
          refine WO.go0 rfl rfl ?_
          refine WO.step (v := (.bool (y74.Rep != x60))) rfl (nz rfl rfl) ?_
          refine WO.step (v := (.bool (y74.Rep != x60))) rfl (nz rfl rfl) ?_
          refine WO.nil ?_
          exact ⟨(known_cons rfl (known_cons rfl (known_cons rfl (known_cons rfl (known_cons rfl known_nil))))), H, rfl⟩
        · skip
          refine WO.by rfl rfl rfl ?_
          refine WO.by rfl rfl rfl ?_
          refine WO.by rfl rfl rfl ?_
          refine WO.by rfl rfl rfl ?_
          refine WO.step (v := (.bool true)) rfl (nz rfl rfl) ?_
          refine WO.nil ?_
          exact ⟨(known_cons rfl (known_cons rfl (known_cons rfl (known_cons rfl (known_cons rfl known_nil))))), H, rfl⟩
      · rintro σ S e ⟨hk, H, rfl⟩
        refine WO.of_known hk ?_
        refine WO.step (v := (.bool ((decide (x60 ≥ 6)) || (y74.Rep != x60)))) rfl (nz rfl rfl) ?_
        obtain ⟨y81, hy81, hOy81⟩ := bindS h
        refine WO.split 4 (fun σ' S' e' => Known ([(5, (encSl e_Api_CSN a58)), (6, (.int .i64 a59)), (7, (.int .i64 x60)), (24, (.bool y81))]) σ' ∧ Hp S0 R S' [(i75, .cells [(.int .i64 y74.Time), (.int .i64 y74.Seq), (.int .i64 y74.Rep)])] [] [] ∧ e' = false) ?_ ?_
        · replace h := hy81
          cases hc83 : ((decide (x60 ≥ 6)) || (y74.Rep != x60))
          · replace h := iteF h hc83
            refine WO.go0 rfl rfl ?_
            refine WO.step (v := (.agg [(.int .i64 y74.Time), (.int .i64 y74.Seq), (.int .i64 y74.Rep)])) rfl (nz rfl (stp_load rfl (H.get 0 rfl) rfl)) ?_
            refine WO.go0 rfl rfl ?_
            obtain ⟨y82, hy82, h⟩ := bindS h
            refine WO.step (v := (.bool y82)) rfl (nz rfl (stp_call (vs := [(.agg [(.int .i64 y74.Time), (.int .i64 y74.Seq), (.int .i64 y74.Rep)])]) rfl rfl (s44 _ hy82 rfl _))) ?_
            refine WO.go0 rfl rfl ?_
            refine WO.step (v := (.bool (!y82))) rfl (nz rfl rfl) ?_
            refine WO.step (v := (.bool (!y82))) rfl (nz rfl rfl) ?_
            refine WO.nil ?_
            obtain rfl := Option.some.inj h
            exact ⟨(known_cons rfl (known_cons rfl (known_cons rfl (known_cons rfl known_nil)))), (H.sub (.cons_cons _ .slnil) .slnil .slnil), rfl⟩
          · replace h := iteT h hc83
            refine WO.by rfl rfl rfl ?_
            refine WO.by rfl rfl rfl ?_
            refine WO.by rfl rfl rfl ?_
            refine WO.step (v := (.bool true)) rfl (nz rfl rfl) ?_
            refine WO.nil ?_
            obtain rfl := Option.some.inj h
            exact ⟨(known_cons rfl (known_cons rfl (known_cons rfl (known_cons rfl known_nil)))), (H.sub (.cons_cons _ .slnil) .slnil .slnil), rfl⟩
        · rintro σ S e ⟨hk, H, rfl⟩
          replace h := hOy81
          refine WO.of_known hk ?_
          refine WO.nil ?_
          rcases iteS h with ⟨hc85, h⟩ | ⟨hc85, h⟩
          · refine WC.condT rfl hc85 ?_
            refine WC.seqR ?_
            refine WO.step (v := (.bool false)) rfl (nz rfl rfl) ?_
            refine WO.nil ?_
            refine WC.ret ?_
            refine KX.block_r ?_
            refine KX.seq_r ?_
            refine KX.seq_r ?_
            obtain rfl := Option.some.inj h
            exact hret _ rfl (known_cons rfl known_nil) (H.sub (.cons _ .slnil) .slnil .slnil)
          · refine WC.condF rfl hc85 ?_
            refine WC.skip ?_
            refine KX.block_n ?_
            refine KX.seq_n ?_
            refine WC.region ?_
            refine WO.step (v := (.int .i64 (ad .i64 x60 1))) rfl (nz rfl rfl) ?_
            refine WO.step (v := (.int .i64 (ad .i64 x60 1))) rfl (nz rfl rfl) ?_
            refine WO.nil ?_
            refine KX.seq_n ?_
            exact ih h  (known_cons rfl (known_cons rfl (known_cons rfl known_nil))) (H.sub (.cons _ .slnil) .slnil .slnil)
    · refine WC.condF rfl hc86 ?_
      refine WC.exit ?_
      refine KX.seq_x ?_
      refine KX.seq_x ?_
      obtain rfl := Option.some.inj h
      exact hbrk _ rfl  (known_cons rfl known_nil) (H.sub .slnil .slnil .slnil)
theorem s22 : ∀ k : Nat, ∀ {a0 : Sl Api_CSN} {r : Bool}, F22 k a0 = some r → ∀ {vs : List PV}, vs.map PV.strip = [(encSl e_Api_CSN a0)] → ∀ S : List SObj, evw env 22 vs S = some ((.bool r), S, false) := by
  intro k a0 r h vs ha S
  unfold F22 at h
  refine evw_pureW (pf := fn22) rfl rfl ha (Nat.le_of_ble_eq_true rfl) (by simp [PV.clean, cleanL, clean_encSl clean_Api_CSN]) rfl ?_
  refine WB.of (pf := fn22) rfl ?_
  have H := Hp.start []
  refine WC.seqR ?_
  refine WO.step (v := (.bool false)) rfl (nz rfl rfl) ?_
  refine WO.nil ?_
  refine WC.seq ?_
  refine WC.seqR ?_
  refine WO.step (v := (encSl e_Api_CSN a0)) rfl (nz rfl rfl) ?_
  refine WO.step (v := (.int .i64 (Sl.len a0))) rfl (nz rfl (stp_len rfl (isSl_enc _ _) rfl)) ?_
  refine WO.step (v := (.int .i64 0)) rfl (nz rfl rfl) ?_
  refine WO.nil ?_
  obtain ⟨y87, hy87, hOy87⟩ := bindS h
  refine WC.block ?_
  refine l22_L0 ?_ ?_ hy87  (known_cons rfl (known_cons rfl (known_cons rfl known_nil))) (H.sub .slnil .slnil .slnil)
  · intro y87r he σ S  hk H; subst he; replace h := hOy87; dsimp only at h
    refine KX.of_known hk ?_
    refine KX.block_r ?_
    refine KX.seq_r ?_
    obtain rfl := Option.some.inj h
    refine KB.ret (vs := [(.bool y87r)]) (res_tmp rfl res_nil) (fl_cons' rfl rfl) ?_
    exact rfl
  · intro y87b he σ S  hk H; subst he; replace h := hOy87; dsimp only at h
    refine KX.of_known hk ?_
    refine KX.block_x ?_
    refine KX.seq_n ?_
    refine WC.seqR ?_
    refine WO.step (v := (.bool true)) rfl (nz rfl rfl) ?_
    refine WO.nil ?_
    refine WC.ret ?_
    obtain rfl := Option.some.inj h
    refine KB.ret (vs := [(.bool true)]) (res_tmp rfl res_nil) (fl_cons' rfl rfl) ?_
    exact rfl
-- 47 prefect/vector.of
/-- prefect/vector.of -/
def F47 (k : Nat) (a0 : Sl Api_CSN) : Option (Sl Api_CSN) :=
  Option.bind (F22 k a0) fun y1 =>
  if !y1 then
  some none
  else
  some a0
theorem s47 : ∀ k : Nat, ∀ {a0 : Sl Api_CSN} {r : (Sl Api_CSN)}, F47 k a0 = some r → ∀ {vs : List PV}, vs.map PV.strip = [(encSl e_Api_CSN a0)] → ∀ S : List SObj, evw env 47 vs S = some ((encSl e_Api_CSN r), S, false) := by
  intro k a0 r h vs ha S
  unfold F47 at h
  refine evw_pureW (pf := fn47) rfl rfl ha (Nat.le_of_ble_eq_true rfl) (by simp [PV.clean, cleanL, clean_encSl clean_Api_CSN]) (by simp [PV.clean, cleanL, clean_encSl clean_Api_CSN]) ?_
  refine WB.of (pf := fn47) rfl ?_
  have H := Hp.start []
  refine WC.seqR ?_
  refine WO.step (v := .nils) rfl (nz rfl rfl) ?_
  refine WO.nil ?_
  refine WC.seq ?_
  refine WC.seqR ?_
  refine WO.step (v := (encSl e_Api_CSN a0)) rfl (nz rfl rfl) ?_
  obtain ⟨y1, hy1, h⟩ := bindS h
  refine WO.step (v := (.bool y1)) rfl (nz (fz_tmp' (isSl_enc _ _).frz rfl) (stp_call (vs := [(encSl e_Api_CSN a0)]) rfl rfl (s22 _ hy1 (by simp only [strip_enc, List.map_cons, List.map_nil, tupled]) _))) ?_
  refine WO.step (v := (.bool (!y1))) rfl (nz rfl rfl) ?_
  refine WO.nil ?_
  rcases iteS h with ⟨hc3, h⟩ | ⟨hc3, h⟩
  · refine WC.condT rfl hc3 ?_
    refine WC.seqR ?_
    refine WO.step (v := .nils) rfl (nz rfl rfl) ?_
    refine WO.nil ?_
    refine WC.ret ?_
    refine KX.seq_r ?_
    obtain rfl := Option.some.inj h
    refine KB.ret (vs := [.nils]) (res_tmp rfl res_nil) (fl_cons' rfl rfl) ?_
    exact (by simp only [st_tup, List.map_cons, List.map_nil, tupled, st_nils, encSl_none])
  · refine WC.condF rfl hc3 ?_
    refine WC.skip ?_
    refine KX.seq_n ?_
    refine WC.seqR ?_
    refine WO.step (v := (encSl e_Api_CSN a0)) rfl (nz rfl rfl) ?_
    refine WO.step (v := (encSl e_Api_CSN a0)) rfl (nz rfl rfl) ?_
    refine WO.nil ?_
    refine WC.ret ?_
    obtain rfl := Option.some.inj h
    refine KB.ret (vs := [(encSl e_Api_CSN a0)]) (res_tmp rfl res_nil) (fl_cons' (isSl_enc _ _).frz rfl) ?_
    exact (by simp only [st_tup, List.map_cons, List.map_nil, tupled, strip_enc])
-- 46 slices.Clone[prefect/api.Vector,prefect/api.CSN]
/-- slices.Clone[prefect/api.Vector,prefect/api.CSN] -/
def F46 (k : Nat) (a0 : Sl Api_CSN) : Option (Sl Api_CSN) :=
  if Sl.isNil a0 then
  some none
  else
  Option.bind (Sl.app? 24 (some [] : Sl Api_CSN) (Sl.l a0)) fun z3 =>
  some z3
theorem s46 : ∀ k : Nat, ∀ {a0 : Sl Api_CSN} {r : (Sl Api_CSN)}, F46 k a0 = some r → ∀ {vs : List PV}, vs.map PV.strip = [(encSl e_Api_CSN a0)] → ∀ S : List SObj, ∃ v S', evw env 46 vs S = some (v, S', false) ∧ IsW r v ∧ Hp S [] S' [] [] [(v, rowO e_Api_CSN 3 false r)] := by
  intro k a0 r h vs ha S
  unfold F46 at h
  refine evw_rawW (pf := fn46) rfl rfl ha (by simp only [List.map_cons, List.map_nil, strip_enc, st_int, st_bool, st_str]) (Nat.le_of_ble_eq_true rfl) (by simp [PV.clean, cleanL, clean_encSl clean_Api_CSN]) ?_ S
  intro vs S0 ha
  obtain ⟨u0, vs, rfl, hu0, ha⟩ := arg_cons ha
  replace hu0 := sl_of_strip hu0
  obtain rfl := arg_nil ha
  refine WB.of (pf := fn46) rfl ?_
  have H := Hp.start S0
  refine WC.seqR ?_
  refine WO.step (v := .nils) rfl (nz rfl rfl) ?_
  refine WO.nil ?_
  refine WC.seq ?_
  refine WC.seqR ?_
  refine WO.step (v := u0) rfl (nz rfl rfl) ?_
  refine WO.step (v := (.bool (Sl.isNil a0))) rfl (nz rfl (stp_isNil rfl hu0 rfl rfl)) ?_
  refine WO.nil ?_
  rcases iteS h with ⟨hc5, h⟩ | ⟨hc5, h⟩
  · refine WC.condT rfl hc5 ?_
    refine WC.seqR ?_
    refine WO.step (v := .nils) rfl (nz rfl rfl) ?_
    refine WO.nil ?_
    refine WC.ret ?_
    refine KX.seq_r ?_
    obtain rfl := Option.some.inj h
    have H := H.addNoW .nils (rowO (α := Api_CSN) e_Api_CSN 3 false none) rfl
    refine KB.retR (vs := [.nils]) (res_tmp rfl res_nil) ?_
    exact ⟨isW_nil, rfl, H.sub .slnil .slnil (.cons_cons _ .slnil)⟩
  · refine WC.condF rfl hc5 ?_
    refine WC.skip ?_
    refine KX.seq_n ?_
    refine WC.seqR ?_
    refine WO.ex rfl (bzn rfl (born_build (f := e_Api_CSN) (ei := ty50) (stp_buildSlice (fr := ⟨0, 0⟩) (ys := []) (f := e_Api_CSN) (parts := []) rfl rfl rfl rfl rfl rfl (fun p hp => nomatch hp) rfl) rfl rfl H)) ?_
    rintro v2 S ⟨hv2, H⟩
    replace H : Hp S0 [] _ [] [] [(v2, rowO e_Api_CSN 3 false (some [] : Sl Api_CSN))] := H
    refine WO.step (v := u0) rfl (nz rfl rfl) ?_
    obtain ⟨z3, hz3, h⟩ := bindS h
    refine WO.ex rfl (bzn (fz_tmp' hu0.frz rfl) (born_app (f := e_Api_CSN) (ei := ty50) H 0 rfl rfl hv2 rfl hu0 rfl rfl rfl rfl (fun a => (e_Api_CSN_one a).2.1) hz3)) ?_
    rintro v4 S ⟨hv4, H⟩
    replace H : Hp S0 [] _ [] [] [(v4, rowO e_Api_CSN 3 false z3)] := H
    refine WO.step (v := v4) rfl (nz rfl rfl) ?_
    refine WO.nil ?_
    refine WC.ret ?_
    obtain rfl := Option.some.inj h
    refine KB.retR (vs := [v4]) (res_tmp rfl res_nil) ?_
    exact ⟨hv4, rfl, H.sub .slnil .slnil (.cons_cons _ .slnil)⟩
-- 61 cmp.isNaN[int64]
/-- cmp.isNaN[int64] -/
def F61 (k : Nat) (a0 : Int) : Option Bool :=
  some (a0 != a0)
theorem s61 : ∀ k : Nat, ∀ {a0 : Int} {r : Bool}, F61 k a0 = some r → ∀ {vs : List PV}, vs.map PV.strip = [(.int .i64 a0)] → ∀ S : List SObj, evw env 61 vs S = some ((.bool r), S, false) := by
  intro k a0 r h vs ha S
  unfold F61 at h
  refine evw_pureW (pf := fn61) rfl rfl ha (Nat.le_of_ble_eq_true rfl) rfl rfl ?_
  refine WB.of (pf := fn61) rfl ?_
  have H := Hp.start []
  refine WC.seqR ?_
  refine WO.step (v := (.bool false)) rfl (nz rfl rfl) ?_
  refine WO.nil ?_
  refine WC.seqR ?_
  refine WO.step (v := (.int .i64 a0)) rfl (nz rfl rfl) ?_
  refine WO.step (v := (.int .i64 a0)) rfl (nz rfl rfl) ?_
  refine WO.step (v := (.bool (a0 != a0))) rfl (nz rfl rfl) ?_
  refine WO.step (v := (.bool (a0 != a0))) rfl (nz rfl rfl) ?_
  refine WO.nil ?_
  refine WC.ret ?_
  obtain rfl := Option.some.inj h
  refine KB.ret (vs := [(.bool (a0 != a0))]) (res_tmp rfl res_nil) (fl_cons' rfl rfl) ?_
  exact rfl
-- 59 cmp.Compare[int64]
/-- cmp.Compare[int64] -/
def F59 (k : Nat) (a0 : Int) (a1 : Int) : Option Int :=
  Option.bind (F61 k a0) fun y1 =>
  Option.bind (F61 k a1) fun y2 =>
  if y1 then
  if y2 then
  some 0
  else
  some (-1)
  else
  if y2 then
  some 1
  else
  if decide (a0 < a1) then
  some (-1)
  else
  if decide (a0 > a1) then
  some 1
  else
  some 0
theorem s59 : ∀ k : Nat, ∀ {a0 : Int} {a1 : Int} {r : Int}, F59 k a0 a1 = some r → ∀ {vs : List PV}, vs.map PV.strip = [(.int .i64 a0), (.int .i64 a1)] → ∀ S : List SObj, evw env 59 vs S = some ((.int .i64 r), S, false) := by
  intro k a0 a1 r h vs ha S
  unfold F59 at h
  refine evw_pureW (pf := fn59) rfl rfl ha (Nat.le_of_ble_eq_true rfl) rfl rfl ?_
  refine WB.of (pf := fn59) rfl ?_
  have H := Hp.start []
  refine WC.seqR ?_
  refine WO.step (v := (.int .i64 0)) rfl (nz rfl rfl) ?_
  refine WO.nil ?_
  refine WC.seqR ?_
  refine WO.step (v := (.int .i64 a0)) rfl (nz rfl rfl) ?_
  obtain ⟨y1, hy1, h⟩ := bindS h
  refine WO.step (v := (.bool y1)) rfl (nz rfl (stp_call (vs := [(.int .i64 a0)]) rfl rfl (s61 _ hy1 rfl _))) ?_
  refine WO.step (v := (.bool y1)) rfl (nz rfl rfl) ?_
  refine WO.nil ?_
  refine WC.seqR ?_
  refine WO.step (v := (.int .i64 a1)) rfl (nz rfl rfl) ?_
  obtain ⟨y2, hy2, h⟩ := bindS h
  refine WO.step (v := (.bool y2)) rfl (nz rfl (stp_call (vs := [(.int .i64 a1)]) rfl rfl (s61 _ hy2 rfl _))) ?_
  refine WO.step (v := (.bool y2)) rfl (nz rfl rfl) ?_
  refine WO.nil ?_
  refine WC.seq ?_
  refine WC.seqR ?_
  refine WO.step (v := (.bool y1)) rfl (nz rfl rfl) ?_
  refine WO.nil ?_
  rcases iteS h with ⟨hc14, h⟩ | ⟨hc14, h⟩
  · refine WC.condT rfl hc14 ?_
    refine WC.seq ?_
    refine WC.seqR ?_
    refine WO.step (v := (.bool y2)) rfl (nz rfl rfl) ?_
    refine WO.nil ?_
    rcases iteS h with ⟨hc7, h⟩ | ⟨hc7, h⟩
    · refine WC.condT rfl hc7 ?_
      refine WC.seqR ?_
      refine WO.step (v := (.int .i64 0)) rfl (nz rfl rfl) ?_
      refine WO.nil ?_
      refine WC.ret ?_
      refine KX.seq_r ?_
      refine KX.seq_r ?_
      obtain rfl := Option.some.inj h
      refine KB.ret (vs := [(.int .i64 0)]) (res_tmp rfl res_nil) (fl_cons' rfl rfl) ?_
      exact rfl
    · refine WC.condF rfl hc7 ?_
      refine WC.skip ?_
      refine KX.seq_n ?_
      refine WC.seqR ?_
      refine WO.step (v := (.int .i64 (-1))) rfl (nz rfl rfl) ?_
      refine WO.nil ?_
      refine WC.ret ?_
      refine KX.seq_r ?_
      obtain rfl := Option.some.inj h
      refine KB.ret (vs := [(.int .i64 (-1))]) (res_tmp rfl res_nil) (fl_cons' rfl rfl) ?_
      exact rfl
  · refine WC.condF rfl hc14 ?_
    refine WC.skip ?_
    refine KX.seq_n ?_
    refine WC.seq ?_
    refine WC.seqR ?_
    refine WO.step (v := (.bool y2)) rfl (nz rfl rfl) ?_
    refine WO.nil ?_
    rcases iteS h with ⟨hc13, h⟩ | ⟨hc13, h⟩
    · refine WC.condT rfl hc13 ?_
      refine WC.seqR ?_
      refine WO.step (v := (.int .i64 1)) rfl (nz rfl rfl) ?_
      refine WO.nil ?_
      refine WC.ret ?_
      refine KX.seq_r ?_
      obtain rfl := Option.some.inj h
      refine KB.ret (vs := [(.int .i64 1)]) (res_tmp rfl res_nil) (fl_cons' rfl rfl) ?_
      exact rfl
    · refine WC.condF rfl hc13 ?_
      refine WC.skip ?_
      refine KX.seq_n ?_
      refine WC.seq ?_
      refine WC.seqR ?_
      refine WO.step (v := (.int .i64 a0)) rfl (nz rfl rfl) ?_
      refine WO.step (v := (.int .i64 a1)) rfl (nz rfl rfl) ?_
      refine WO.step (v := (.bool (decide (a0 < a1)))) rfl (nz rfl rfl) ?_
      refine WO.nil ?_
      rcases iteS h with ⟨hc12, h⟩ | ⟨hc12, h⟩
      · refine WC.condT rfl hc12 ?_
        refine WC.seqR ?_
        refine WO.step (v := (.int .i64 (-1))) rfl (nz rfl rfl) ?_
        refine WO.nil ?_
        refine WC.ret ?_
        refine KX.seq_r ?_
        obtain rfl := Option.some.inj h
        refine KB.ret (vs := [(.int .i64 (-1))]) (res_tmp rfl res_nil) (fl_cons' rfl rfl) ?_
        exact rfl
      · refine WC.condF rfl hc12 ?_
        refine WC.skip ?_
        refine KX.seq_n ?_
        refine WC.seq ?_
        refine WC.seqR ?_
        refine WO.step (v := (.int .i64 a0)) rfl (nz rfl rfl) ?_
        refine WO.step (v := (.int .i64 a1)) rfl (nz rfl rfl) ?_
        refine WO.step (v := (.bool (decide (a0 > a1)))) rfl (nz rfl rfl) ?_
        refine WO.nil ?_
        rcases iteS h with ⟨hc11, h⟩ | ⟨hc11, h⟩
        · refine WC.condT rfl hc11 ?_
          refine WC.seqR ?_
          refine WO.step (v := (.int .i64 1)) rfl (nz rfl rfl) ?_
          refine WO.nil ?_
          refine WC.ret ?_
          refine KX.seq_r ?_
          obtain rfl := Option.some.inj h
          refine KB.ret (vs := [(.int .i64 1)]) (res_tmp rfl res_nil) (fl_cons' rfl rfl) ?_
          exact rfl
        · refine WC.condF rfl hc11 ?_
          refine WC.skip ?_
          refine KX.seq_n ?_
          refine WC.seqR ?_
          refine WO.step (v := (.int .i64 0)) rfl (nz rfl rfl) ?_
          refine WO.nil ?_
          refine WC.ret ?_
          obtain rfl := Option.some.inj h
          refine KB.ret (vs := [(.int .i64 0)]) (res_tmp rfl res_nil) (fl_cons' rfl rfl) ?_
          exact rfl
-- 62 cmp.isNaN[int]
/-- cmp.isNaN[int] -/
def F62 (k : Nat) (a0 : Int) : Option Bool :=
  some (a0 != a0)
theorem s62 : ∀ k : Nat, ∀ {a0 : Int} {r : Bool}, F62 k a0 = some r → ∀ {vs : List PV}, vs.map PV.strip = [(.int .i64 a0)] → ∀ S : List SObj, evw env 62 vs S = some ((.bool r), S, false) := by
  intro k a0 r h vs ha S
  unfold F62 at h
  refine evw_pureW (pf := fn62) rfl rfl ha (Nat.le_of_ble_eq_true rfl) rfl rfl ?_
  refine WB.of (pf := fn62) rfl ?_
  have H := Hp.start []
  refine WC.seqR ?_
  refine WO.step (v := (.bool false)) rfl (nz rfl rfl) ?_
  refine WO.nil ?_
  refine WC.seqR ?_
  refine WO.step (v := (.int .i64 a0)) rfl (nz rfl rfl) ?_
  refine WO.step (v := (.int .i64 a0)) rfl (nz rfl rfl) ?_
  refine WO.step (v := (.bool (a0 != a0))) rfl (nz rfl rfl) ?_
  refine WO.step (v := (.bool (a0 != a0))) rfl (nz rfl rfl) ?_
  refine WO.nil ?_
  refine WC.ret ?_
  obtain rfl := Option.some.inj h
  refine KB.ret (vs := [(.bool (a0 != a0))]) (res_tmp rfl res_nil) (fl_cons' rfl rfl) ?_
  exact rfl
-- 60 cmp.Compare[int]
/-- cmp.Compare[int] -/
def F60 (k : Nat) (a0 : Int) (a1 : Int) : Option Int :=
  Option.bind (F62 k a0) fun y1 =>
  Option.bind (F62 k a1) fun y2 =>
  if y1 then
  if y2 then
  some 0
  else
  some (-1)
  else
  if y2 then
  some 1
  else
  if decide (a0 < a1) then
  some (-1)
  else
  if decide (a0 > a1) then
  some 1
  else
  some 0
theorem s60 : ∀ k : Nat, ∀ {a0 : Int} {a1 : Int} {r : Int}, F60 k a0 a1 = some r → ∀ {vs : List PV}, vs.map PV.strip = [(.int .i64 a0), (.int .i64 a1)] → ∀ S : List SObj, evw env 60 vs S = some ((.int .i64 r), S, false) := by
  intro k a0 a1 r h vs ha S
  unfold F60 at h
  refine evw_pureW (pf := fn60) rfl rfl ha (Nat.le_of_ble_eq_true rfl) rfl rfl ?_
  refine WB.of (pf := fn60) rfl ?_
  have H := Hp.start []
  refine WC.seqR ?_
  refine WO.step (v := (.int .i64 0)) rfl (nz rfl rfl) ?_
  refine WO.nil ?_
  refine WC.seqR ?_
  refine WO.step (v := (.int .i64 a0)) rfl (nz rfl rfl) ?_
  obtain ⟨y1, hy1, h⟩ := bindS h
  refine WO.step (v := (.bool y1)) rfl (nz rfl (stp_call (vs := [(.int .i64 a0)]) rfl rfl (s62 _ hy1 rfl _))) ?_
  refine WO.step (v := (.bool y1)) rfl (nz rfl rfl) ?_
  refine WO.nil ?_
  refine WC.seqR ?_
  refine WO.step (v := (.int .i64 a1)) rfl (nz rfl rfl) ?_
  obtain ⟨y2, hy2, h⟩ := bindS h
  refine WO.step (v := (.bool y2)) rfl (nz rfl (stp_call (vs := [(.int .i64 a1)]) rfl rfl (s62 _ hy2 rfl _))) ?_
  refine WO.step (v := (.bool y2)) rfl (nz rfl rfl) ?_
  refine WO.nil ?_
  refine WC.seq ?_
  refine WC.seqR ?_
  refine WO.step (v := (.bool y1)) rfl (nz rfl rfl) ?_
  refine WO.nil ?_
  rcases iteS h with ⟨hc14, h⟩ | ⟨hc14, h⟩
  · refine WC.condT rfl hc14 ?_
    refine WC.seq ?_
    refine WC.seqR ?_
    refine WO.step (v := (.bool y2)) rfl (nz rfl rfl) ?_
    refine WO.nil ?_
    rcases iteS h with ⟨hc7, h⟩ | ⟨hc7, h⟩
    · refine WC.condT rfl hc7 ?_
      refine WC.seqR ?_
      refine WO.step (v := (.int .i64 0)) rfl (nz rfl rfl) ?_
      refine WO.nil ?_
      refine WC.ret ?_
      refine KX.seq_r ?_
      refine KX.seq_r ?_
      obtain rfl := Option.some.inj h
      refine KB.ret (vs := [(.int .i64 0)]) (res_tmp rfl res_nil) (fl_cons' rfl rfl) ?_
      exact rfl
    · refine WC.condF rfl hc7 ?_
      refine WC.skip ?_
      refine KX.seq_n ?_
      refine WC.seqR ?_
      refine WO.step (v := (.int .i64 (-1))) rfl (nz rfl rfl) ?_
      refine WO.nil ?_
      refine WC.ret ?_
      refine KX.seq_r ?_
      obtain rfl := Option.some.inj h
      refine KB.ret (vs := [(.int .i64 (-1))]) (res_tmp rfl res_nil) (fl_cons' rfl rfl) ?_
      exact rfl
  · refine WC.condF rfl hc14 ?_
    refine WC.skip ?_
    refine KX.seq_n ?_
    refine WC.seq ?_
    refine WC.seqR ?_
    refine WO.step (v := (.bool y2)) rfl (nz rfl rfl) ?_
    refine WO.nil ?_
    rcases iteS h with ⟨hc13, h⟩ | ⟨hc13, h⟩
    · refine WC.condT rfl hc13 ?_
      refine WC.seqR ?_
      refine WO.step (v := (.int .i64 1)) rfl (nz rfl rfl) ?_
      refine WO.nil ?_
      refine WC.ret ?_
      refine KX.seq_r ?_
      obtain rfl := Option.some.inj h
      refine KB.ret (vs := [(.int .i64 1)]) (res_tmp rfl res_nil) (fl_cons' rfl rfl) ?_
      exact rfl
    · refine WC.condF rfl hc13 ?_
      refine WC.skip ?_
      refine KX.seq_n ?_
      refine WC.seq ?_
      refine WC.seqR ?_
      refine WO.step (v := (.int .i64 a0)) rfl (nz rfl rfl) ?_
      refine WO.step (v := (.int .i64 a1)) rfl (nz rfl rfl) ?_
      refine WO.step (v := (.bool (decide (a0 < a1)))) rfl (nz rfl rfl) ?_
      refine WO.nil ?_
      rcases iteS h with ⟨hc12, h⟩ | ⟨hc12, h⟩
      · refine WC.condT rfl hc12 ?_
        refine WC.seqR ?_
        refine WO.step (v := (.int .i64 (-1))) rfl (nz rfl rfl) ?_
        refine WO.nil ?_
        refine WC.ret ?_
        refine KX.seq_r ?_
        obtain rfl := Option.some.inj h
        refine KB.ret (vs := [(.int .i64 (-1))]) (res_tmp rfl res_nil) (fl_cons' rfl rfl) ?_
        exact rfl
      · refine WC.condF rfl hc12 ?_
        refine WC.skip ?_
        refine KX.seq_n ?_
        refine WC.seq ?_
        refine WC.seqR ?_
        refine WO.step (v := (.int .i64 a0)) rfl (nz rfl rfl) ?_
        refine WO.step (v := (.int .i64 a1)) rfl (nz rfl rfl) ?_
        refine WO.step (v := (.bool (decide (a0 > a1)))) rfl (nz rfl rfl) ?_
        refine WO.nil ?_
        rcases iteS h with ⟨hc11, h⟩ | ⟨hc11, h⟩
        · refine WC.condT rfl hc11 ?_
          refine WC.seqR ?_
          refine WO.step (v := (.int .i64 1)) rfl (nz rfl rfl) ?_
          refine WO.nil ?_
          refine WC.ret ?_
          refine KX.seq_r ?_
          obtain rfl := Option.some.inj h
          refine KB.ret (vs := [(.int .i64 1)]) (res_tmp rfl res_nil) (fl_cons' rfl rfl) ?_
          exact rfl
        · refine WC.condF rfl hc11 ?_
          refine WC.skip ?_
          refine KX.seq_n ?_
          refine WC.seqR ?_
          refine WO.step (v := (.int .i64 0)) rfl (nz rfl rfl) ?_
          refine WO.nil ?_
          refine WC.ret ?_
          obtain rfl := Option.some.inj h
          refine KB.ret (vs := [(.int .i64 0)]) (res_tmp rfl res_nil) (fl_cons' rfl rfl) ?_
          exact rfl
-- 58 cmp.Or[int]
def F58_L0 (k : Nat) (a22 : Sl Int) (a23 : Int) : Nat → Int → Option (Out Int Int)
  | 0, _ => none
  | n + 1, x24 =>
    if decide (x24 < a23) then
    Option.bind (Sl.at? a22 x24) fun y29 =>
    if y29 != 0 then
    some (Out.ret y29)
    else
    F58_L0 k a22 a23 n (ad .i64 x24 1)
    else
    some (Out.brk x24)
/-- cmp.Or[int] -/
def F58 (k : Nat) (a0 : Sl Int) : Option Int :=
  Option.bind (F58_L0 k a0 (Sl.len a0) k 0) fun y33 =>
  match y33 with
  | .ret y33r => some y33r
  | .brk y33b =>
  some 0
theorem l58_L0 {k : Nat} {a22 : Sl Int} {a23 : Int} {S0 : List SObj} {R : List Nat} {K : KX}  {o : Out Int Int}
    (hret : ∀ r : Int, o = .ret r → ∀ {σ' : Nat → PV} {S' : List SObj}, Known [(2, (.int .i64 r))] σ' → Hp S0 R S' [] [] [] → K .ret σ' S' false)
    (hbrk : ∀ y : Int, o = .brk y → ∀ {σ' : Nat → PV} {S' : List SObj}, Known [(3, (.int .i64 0)), (8, (.int .i64 y))] σ' → Hp S0 R S' [] [] [] → K (.exit 0) σ' S' false) :
    ∀ {n : Nat} {x24 : Int}, F58_L0 k a22 a23 n x24 = some o → ∀ {σ : Nat → PV} {S : List SObj}, Known [(3, (.int .i64 0)), (6, (encSl (eI .i64) a22)), (7, (.int .i64 a23)), (8, (.int .i64 x24))] σ → Hp S0 R S [] [] [] → WC env ⟨18, S0.length⟩ (.loop pc58L0) σ S false K := by
  intro n
  induction n with
  | zero => intro _ h; cases h
  | succ n ih =>
    intro x24 h σ S  hk H
    rw [F58_L0] at h
    refine WC.loop ?_
    refine WC.of_known hk ?_
    refine WC.seqR ?_
    refine WO.step (v := (.bool (decide (x24 < a23)))) rfl (nz rfl rfl) ?_
    refine WO.nil ?_
    refine WC.seq ?_
    rcases iteS h with ⟨hc32, h⟩ | ⟨hc32, h⟩
    · refine WC.condT rfl hc32 ?_
      refine WC.skip ?_
      refine KX.seq_n ?_
      refine WC.seq ?_
      refine WC.block ?_
      refine WC.seqR ?_
      obtain ⟨y29, hy29, h⟩ := bindS h
      refine WO.step (v := (.iptr [(.int .i64 y29)] 0)) rfl (nz rfl (stp_idxAddr rfl (isSl_enc _ _) rfl rfl rfl hy29 rfl rfl)) ?_
      refine WO.step (v := (.int .i64 y29)) rfl (nz rfl rfl) ?_
      refine WO.step (v := (.int .i64 y29)) rfl (nz rfl rfl) ?_
      refine WO.nil ?_
      refine WC.seqR ?_
      refine WO.step (v := (.int .i64 y29)) rfl (nz rfl rfl) ?_
      refine WO.step (v := (.int .i64 0)) rfl (nz rfl rfl) ?_
      refine WO.step (v := (.bool (y29 != 0))) rfl (nz rfl rfl) ?_
      refine WO.nil ?_
      rcases iteS h with ⟨hc31, h⟩ | ⟨hc31, h⟩
      · refine WC.condT rfl hc31 ?_
        refine WC.seqR ?_
        refine WO.step (v := (.int .i64 y29)) rfl (nz rfl rfl) ?_
        refine WO.step (v := (.int .i64 y29)) rfl (nz rfl rfl) ?_
        refine WO.nil ?_
        refine WC.ret ?_
        refine KX.block_r ?_
        refine KX.seq_r ?_
        refine KX.seq_r ?_
        obtain rfl := Option.some.inj h
        exact hret _ rfl (known_cons rfl known_nil) (H.sub .slnil .slnil .slnil)
      · refine WC.condF rfl hc31 ?_
        refine WC.skip ?_
        refine KX.block_n ?_
        refine KX.seq_n ?_
        refine WC.region ?_
        refine WO.step (v := (.int .i64 (ad .i64 x24 1))) rfl (nz rfl rfl) ?_
        refine WO.step (v := (.int .i64 (ad .i64 x24 1))) rfl (nz rfl rfl) ?_
        refine WO.nil ?_
        refine KX.seq_n ?_
        exact ih h  (known_cons rfl (known_cons rfl (known_cons rfl (known_cons rfl known_nil)))) (H.sub .slnil .slnil .slnil)
    · refine WC.condF rfl hc32 ?_
      refine WC.exit ?_
      refine KX.seq_x ?_
      refine KX.seq_x ?_
      obtain rfl := Option.some.inj h
      exact hbrk _ rfl  (known_cons rfl (known_cons rfl known_nil)) (H.sub .slnil .slnil .slnil)
theorem s58 : ∀ k : Nat, ∀ {a0 : Sl Int} {r : Int}, F58 k a0 = some r → ∀ {vs : List PV}, vs.map PV.strip = [(encSl (eI .i64) a0)] → ∀ S : List SObj, evw env 58 vs S = some ((.int .i64 r), S, false) := by
  intro k a0 r h vs ha S
  unfold F58 at h
  refine evw_pureW (pf := fn58) rfl rfl ha (Nat.le_of_ble_eq_true rfl) (by simp [PV.clean, cleanL, clean_encSl (clean_eI .i64)]) rfl ?_
  refine WB.of (pf := fn58) rfl ?_
  have H := Hp.start []
  refine WC.seqR ?_
  refine WO.step (v := (.int .i64 0)) rfl (nz rfl rfl) ?_
  refine WO.nil ?_
  refine WC.seqR ?_
  refine WO.step (v := (.int .i64 0)) rfl (nz rfl rfl) ?_
  refine WO.nil ?_
  refine WC.seq ?_
  refine WC.seqR ?_
  refine WO.step (v := (encSl (eI .i64) a0)) rfl (nz rfl rfl) ?_
  refine WO.step (v := (.int .i64 (Sl.len a0))) rfl (nz rfl (stp_len rfl (isSl_enc _ _) rfl)) ?_
  refine WO.step (v := (.int .i64 0)) rfl (nz rfl rfl) ?_
  refine WO.nil ?_
  obtain ⟨y33, hy33, hOy33⟩ := bindS h
  refine WC.block ?_
  refine l58_L0 ?_ ?_ hy33  (known_cons rfl (known_cons rfl (known_cons rfl (known_cons rfl known_nil)))) (H.sub .slnil .slnil .slnil)
  · intro y33r he σ S  hk H; subst he; replace h := hOy33; dsimp only at h
    refine KX.of_known hk ?_
    refine KX.block_r ?_
    refine KX.seq_r ?_
    obtain rfl := Option.some.inj h
    refine KB.ret (vs := [(.int .i64 y33r)]) (res_tmp rfl res_nil) (fl_cons' rfl rfl) ?_
    exact rfl
  · intro y33b he σ S  hk H; subst he; replace h := hOy33; dsimp only at h
    refine KX.of_known hk ?_
    refine KX.block_x ?_
    refine KX.seq_n ?_
    refine WC.seqR ?_
    refine WO.step (v := (.int .i64 0)) rfl (nz rfl rfl) ?_
    refine WO.step (v := (.int .i64 0)) rfl (nz rfl rfl) ?_
    refine WO.nil ?_
    refine WC.ret ?_
    obtain rfl := Option.some.inj h
    refine KB.ret (vs := [(.int .i64 0)]) (res_tmp rfl res_nil) (fl_cons' rfl rfl) ?_
    exact rfl
-- 50 prefect/csn.Cmp
/-- prefect/csn.Cmp -/
def F50 (k : Nat) (a0 : Api_CSN) (a1 : Api_CSN) : Option Int :=
  Option.bind (F59 k a0.Time a1.Time) fun y3 =>
  Option.bind (F60 k a0.Seq a1.Seq) fun y4 =>
  Option.bind (F60 k a0.Rep a1.Rep) fun y5 =>
  Option.bind (F58 k (some [y3, y4, y5])) fun y7 =>
  some y7
theorem s50 : ∀ k : Nat, ∀ {a0 : Api_CSN} {a1 : Api_CSN} {r : Int}, F50 k a0 a1 = some r → ∀ {vs : List PV}, vs.map PV.strip = [(.agg [(.int .i64 a0.Time), (.int .i64 a0.Seq), (.int .i64 a0.Rep)]), (.agg [(.int .i64 a1.Time), (.int .i64 a1.Seq), (.int .i64 a1.Rep)])] → ∀ S : List SObj, evw env 50 vs S = some ((.int .i64 r), S, false) := by
  intro k a0 a1 r h vs ha S
  unfold F50 at h
  refine evw_pureW (pf := fn50) rfl rfl ha (Nat.le_of_ble_eq_true rfl) rfl rfl ?_
  refine WB.of (pf := fn50) rfl ?_
  have H := Hp.start []
  refine WC.seqR ?_
  refine WO.box' rfl rfl rfl rfl rfl H ?_
  intro i1 S hi1 H
  refine WO.box' rfl rfl rfl rfl rfl H ?_
  intro i2 S hi2 H
  refine WO.step (v := (.int .i64 0)) rfl (nz rfl rfl) ?_
  refine WO.nil ?_
  refine WC.seq ?_
  refine WC.draw ?_
  refine WH.step (v := (.ptr i1 0)) rfl (nz rfl rfl) rfl rfl ?_
  refine WH.step (v := (.int .i64 a0.Time)) rfl (nz rfl (stp_load rfl (H.get 1 rfl) rfl)) rfl rfl ?_
  refine WH.step (v := (.ptr i2 0)) rfl (nz rfl rfl) rfl rfl ?_
  refine WH.step (v := (.int .i64 a1.Time)) rfl (nz rfl (stp_load rfl (H.get 0 rfl) rfl)) rfl rfl ?_
  obtain ⟨y3, hy3, h⟩ := bindS h
  refine WH.step (v := (.int .i64 y3)) rfl (nz rfl (stp_call (vs := [(.int .i64 a0.Time), (.int .i64 a1.Time)]) rfl rfl (s59 _ hy3 rfl _))) rfl rfl ?_
  refine WH.step (v := (.ptr i1 1)) rfl (nz rfl rfl) rfl rfl ?_
  refine WH.step (v := (.int .i64 a0.Seq)) rfl (nz rfl (stp_load rfl (H.get 1 rfl) rfl)) rfl rfl ?_
  refine WH.step (v := (.ptr i2 1)) rfl (nz rfl rfl) rfl rfl ?_
  refine WH.step (v := (.int .i64 a1.Seq)) rfl (nz rfl (stp_load rfl (H.get 0 rfl) rfl)) rfl rfl ?_
  obtain ⟨y4, hy4, h⟩ := bindS h
  refine WH.step (v := (.int .i64 y4)) rfl (nz rfl (stp_call (vs := [(.int .i64 a0.Seq), (.int .i64 a1.Seq)]) rfl rfl (s60 _ hy4 rfl _))) rfl rfl ?_
  refine WH.step (v := (.ptr i1 2)) rfl (nz rfl rfl) rfl rfl ?_
  refine WH.step (v := (.int .i64 a0.Rep)) rfl (nz rfl (stp_load rfl (H.get 1 rfl) rfl)) rfl rfl ?_
  refine WH.step (v := (.ptr i2 2)) rfl (nz rfl rfl) rfl rfl ?_
  refine WH.step (v := (.int .i64 a1.Rep)) rfl (nz rfl (stp_load rfl (H.get 0 rfl) rfl)) rfl rfl ?_
  refine WH.nil ?_
  obtain ⟨y5, hy5, h⟩ := bindS h
  refine WO.step (v := (.int .i64 y5)) rfl (nz rfl (stp_call (vs := [(.int .i64 a0.Rep), (.int .i64 a1.Rep)]) rfl rfl (s60 _ hy5 rfl _))) ?_
  refine WO.step rfl (nz rfl (stp_buildSlice (ys := [y3, y4, y5]) (f := (eI .i64)) (parts := [(0, (.int .i64 y3)), (1, (.int .i64 y4)), (2, (.int .i64 y5))]) rfl rfl rfl rfl rfl rfl (fc ⟨rfl, rfl⟩ (fc ⟨rfl, rfl⟩ (fc ⟨rfl, rfl⟩ (fun p hp => nomatch hp)))) rfl)) ?_
  have hv6 : IsSl (eI .i64) (some [y3, y4, y5]) _ := ⟨.full, rfl⟩
  obtain ⟨y7, hy7, h⟩ := bindS h
  refine WO.step (v := (.int .i64 y7)) rfl (nz (fz_tmp' hv6.frz rfl) (stp_call (vs := [(.lst (List.map (eI .i64) [y3, y4, y5]) .full)]) rfl rfl (s58 _ hy7 (by simp only [hv6.strip, st_lst, encSl_some, eI, eB, eS, List.map_cons, List.map_nil, tupled]) _))) ?_
  refine WO.step (v := (.int .i64 y7)) rfl (nz rfl rfl) ?_
  refine WO.nil ?_
  refine KX.seq_n ?_
  refine WC.ret ?_
  obtain rfl := Option.some.inj h
  refine KB.ret (vs := [(.int .i64 y7)]) (res_tmp rfl res_nil) (fl_cons' rfl rfl) ?_
  exact rfl
-- 48 prefect/vector.most
/-- prefect/vector.most -/
def F48 (k : Nat) (a0 : Api_CSN) (a1 : Api_CSN) : Option Api_CSN :=
  Option.bind (F50 k a0 a1) fun y4 =>
  if decide (y4 < 0) then
  some a1
  else
  some a0
theorem s48 : ∀ k : Nat, ∀ {a0 : Api_CSN} {a1 : Api_CSN} {r : Api_CSN}, F48 k a0 a1 = some r → ∀ {vs : List PV}, vs.map PV.strip = [(.agg [(.int .i64 a0.Time), (.int .i64 a0.Seq), (.int .i64 a0.Rep)]), (.agg [(.int .i64 a1.Time), (.int .i64 a1.Seq), (.int .i64 a1.Rep)])] → ∀ S : List SObj, evw env 48 vs S = some ((.agg [(.int .i64 r.Time), (.int .i64 r.Seq), (.int .i64 r.Rep)]), S, false) := by
  intro k a0 a1 r h vs ha S
  unfold F48 at h
  refine evw_pureW (pf := fn48) rfl rfl ha (Nat.le_of_ble_eq_true rfl) rfl rfl ?_
  refine WB.of (pf := fn48) rfl ?_
  have H := Hp.start []
  refine WC.seqR ?_
  refine WO.box' rfl rfl rfl rfl rfl H ?_
  intro i1 S hi1 H
  refine WO.box' rfl rfl rfl rfl rfl H ?_
  intro i2 S hi2 H
  refine WO.alloc' (ti := ty50) rfl rfl rfl rfl H ?_
  intro i3 S hi3 H
  refine WO.nil ?_
  refine WC.seq ?_
  refine WC.seqR ?_
  refine WO.step (v := (.agg [(.int .i64 a0.Time), (.int .i64 a0.Seq), (.int .i64 a0.Rep)])) rfl (nz rfl (stp_load rfl (H.get 2 rfl) rfl)) ?_
  refine WO.step (v := (.agg [(.int .i64 a1.Time), (.int .i64 a1.Seq), (.int .i64 a1.Rep)])) rfl (nz rfl (stp_load rfl (H.get 1 rfl) rfl)) ?_
  obtain ⟨y4, hy4, h⟩ := bindS h
  refine WO.step (v := (.int .i64 y4)) rfl (nz rfl (stp_call (vs := [(.agg [(.int .i64 a0.Time), (.int .i64 a0.Seq), (.int .i64 a0.Rep)]), (.agg [(.int .i64 a1.Time), (.int .i64 a1.Seq), (.int .i64 a1.Rep)])]) rfl rfl (s50 _ hy4 rfl _))) ?_
  refine WO.step (v := (.bool (decide (y4 < 0)))) rfl (nz rfl rfl) ?_
  refine WO.nil ?_
  rcases iteS h with ⟨hc6, h⟩ | ⟨hc6, h⟩
  · refine WC.condT rfl hc6 ?_
    refine WC.seqR ?_
    refine WO.step (v := (.agg [(.int .i64 a1.Time), (.int .i64 a1.Seq), (.int .i64 a1.Rep)])) rfl (nz rfl (stp_load rfl (H.get 1 rfl) rfl)) ?_
    refine WO.store 0 rfl rfl H rfl rfl rfl rfl rfl rfl rfl (Nat.le_of_ble_eq_true rfl) rfl (own_e hi3) ?_
    intro S H
    replace H : Hp [] [] _ [(i3, .cells [(.int .i64 a1.Time), (.int .i64 a1.Seq), (.int .i64 a1.Rep)]), (i2, .cells [(.int .i64 a1.Time), (.int .i64 a1.Seq), (.int .i64 a1.Rep)]), (i1, .cells [(.int .i64 a0.Time), (.int .i64 a0.Seq), (.int .i64 a0.Rep)])] [] [] := H
    refine WO.nil ?_
    refine WC.ret ?_
    refine KX.seq_r ?_
    obtain rfl := Option.some.inj h
    refine KB.ret (vs := [(.agg [(.int .i64 a1.Time), (.int .i64 a1.Seq), (.int .i64 a1.Rep)])]) (res_cell rfl (H.get 0 rfl) rfl res_nil) (fl_cons' rfl rfl) ?_
    exact rfl
  · refine WC.condF rfl hc6 ?_
    refine WC.skip ?_
    refine KX.seq_n ?_
    refine WC.seqR ?_
    refine WO.step (v := (.agg [(.int .i64 a0.Time), (.int .i64 a0.Seq), (.int .i64 a0.Rep)])) rfl (nz rfl (stp_load rfl (H.get 2 rfl) rfl)) ?_
    refine WO.store 0 rfl rfl H rfl rfl rfl rfl rfl rfl rfl (Nat.le_of_ble_eq_true rfl) rfl (own_e hi3) ?_
    intro S H
    replace H : Hp [] [] _ [(i3, .cells [(.int .i64 a0.Time), (.int .i64 a0.Seq), (.int .i64 a0.Rep)]), (i2, .cells [(.int .i64 a1.Time), (.int .i64 a1.Seq), (.int .i64 a1.Rep)]), (i1, .cells [(.int .i64 a0.Time), (.int .i64 a0.Seq), (.int .i64 a0.Rep)])] [] [] := H
    refine WO.nil ?_
    refine WC.ret ?_
    obtain rfl := Option.some.inj h
    refine KB.ret (vs := [(.agg [(.int .i64 a0.Time), (.int .i64 a0.Seq), (.int .i64 a0.Rep)])]) (res_cell rfl (H.get 0 rfl) rfl res_nil) (fl_cons' rfl rfl) ?_
    exact rfl
-- 24 prefect/vector.Raise
/-- prefect/vector.Raise -/
def F24 (k : Nat) (a0 : Sl Api_CSN) (a1 : Api_CSN) : Option (Sl Api_CSN) :=
  Option.bind (F47 k a0) fun y2 =>
  Option.bind (F46 k y2) fun y3 =>
  Option.bind (F44 k a1) fun y5 =>
  Option.bind (if y5 && (decide (a1.Rep < (Sl.len y3))) then
  Option.bind (Sl.at? y3 a1.Rep) fun y23 =>
  Option.bind (F48 k y23 a1) fun y25 =>
  Option.bind (Sl.at? y3 a1.Rep) fun y26 =>
  some (Sl.set y3 a1.Rep y25)
  else
  some y3) fun y21 =>
  some y21
theorem s24 : ∀ k : Nat, ∀ {a0 : Sl Api_CSN} {a1 : Api_CSN} {r : (Sl Api_CSN)}, F24 k a0 a1 = some r → ∀ {vs : List PV}, vs.map PV.strip = [(encSl e_Api_CSN a0), (.agg [(.int .i64 a1.Time), (.int .i64 a1.Seq), (.int .i64 a1.Rep)])] → ∀ S : List SObj, evw env 24 vs S = some ((encSl e_Api_CSN r), S, false) := by
  intro k a0 a1 r h vs ha S
  unfold F24 at h
  refine evw_pureW (pf := fn24) rfl rfl ha (Nat.le_of_ble_eq_true rfl) (by simp [PV.clean, cleanL, clean_encSl clean_Api_CSN]) (by simp [PV.clean, cleanL, clean_encSl clean_Api_CSN]) ?_
  refine WB.of (pf := fn24) rfl ?_
  have H := Hp.start []
  refine WC.seqR ?_
  refine WO.box' rfl rfl rfl rfl rfl H ?_
  intro i1 S hi1 H
  refine WO.step (v := .nils) rfl (nz rfl rfl) ?_
  refine WO.nil ?_
  refine WC.seqR ?_
  refine WO.step (v := (encSl e_Api_CSN a0)) rfl (nz rfl rfl) ?_
  obtain ⟨y2, hy2, h⟩ := bindS h
  refine WO.step (v := (encSl e_Api_CSN y2)) rfl (nz (fz_tmp' (isSl_enc _ _).frz rfl) (stp_call (vs := [(encSl e_Api_CSN a0)]) rfl rfl (s47 _ hy2 (by simp only [strip_enc, List.map_cons, List.map_nil, tupled]) _))) ?_
  obtain ⟨y3, hy3, h⟩ := bindS h
  refine WO.ex rfl (nzx (fz_tmp' (isSl_enc _ _).frz rfl) (stp_callW (vs := [(encSl e_Api_CSN y2)]) rfl rfl H (s46 _ hy3 (by simp only [strip_enc, List.map_cons, List.map_nil, tupled]) _))) ?_
  rintro v4 S ⟨hv4, H⟩
  replace H : Hp [] [] _ [(i1, .cells [(.int .i64 a1.Time), (.int .i64 a1.Seq), (.int .i64 a1.Rep)])] [] [(v4, rowO e_Api_CSN 3 false y3)] := H
  refine WO.step (v := v4) rfl (nz rfl rfl) ?_
  refine WO.nil ?_
  refine WC.seq ?_
  refine WC.seqR ?_
  refine WO.step (v := (.agg [(.int .i64 a1.Time), (.int .i64 a1.Seq), (.int .i64 a1.Rep)])) rfl (nz rfl (stp_load rfl (H.get 0 rfl) rfl)) ?_
  obtain ⟨y5, hy5, h⟩ := bindS h
  refine WO.step (v := (.bool y5)) rfl (nz rfl (stp_call (vs := [(.agg [(.int .i64 a1.Time), (.int .i64 a1.Seq), (.int .i64 a1.Rep)])]) rfl rfl (s44 _ hy5 rfl _))) ?_
  refine WO.step (v := (.bool y5)) rfl (nz rfl rfl) ?_
  refine WO.split 6 (fun σ' S' e' => Known ([(3, (.ptr i1 0)), (5, v4), (17, (.bool (y5 && (decide (a1.Rep < (Sl.len y3))))))]) σ' ∧ Hp [] [] S' [(i1, .cells [(.int .i64 a1.Time), (.int .i64 a1.Seq), (.int .i64 a1.Rep)])] [] [(v4, rowO e_Api_CSN 3 false y3)] ∧ e' = false) ?_ ?_
  · cases hc6 : y5
    · skip
      refine WO.by rfl rfl rfl ?_
      refine WO.by rfl rfl rfl ?_
      refine WO.by rfl rfl rfl ?_
      refine WO.by rfl rfl rfl ?_
      refine WO.by rfl rfl rfl ?_
      refine WO.step (v := (.bool false)) rfl (nz rfl rfl) ?_
      refine WO.nil ?_
      exact ⟨(known_cons rfl (known_cons rfl (known_cons rfl known_nil))), H, rfl⟩
    · skip
      refine WO.go0 rfl rfl ?_
      refine WO.step (v := (.ptr i1 2)) rfl (nz rfl rfl) ?_
      refine WO.go0 rfl rfl ?_
      refine WO.step (v := (.int .i64 a1.Rep)) rfl (nz rfl (stp_load rfl (H.get 0 rfl) rfl)) ?_
      refine WO.go0 rfl rfl ?_
      refine WO.step (v := v4) rfl (nz rfl rfl) ?_
      refine WO.go0 rfl rfl ?_
      refine WO.step (v := (.int .i64 (Sl.len y3))) rfl (nz rfl (stp_lenW rfl hv4 rfl)) ?_
      refine WO.go0 rfl rfl ?_
      refine WO.step (v := (.bool (decide (a1.Rep < (Sl.len y3))))) rfl (nz rfl rfl) ?_
      refine WO.step (v := (.bool (decide (a1.Rep < (Sl.len y3))))) rfl (nz rfl rfl) ?_
      refine WO.nil ?_
      exact ⟨(known_cons rfl (known_cons rfl (known_cons rfl known_nil))), H, rfl⟩
  · rintro σ S e ⟨hk, H, rfl⟩
    refine WO.of_known hk ?_
    refine WO.nil ?_
    obtain ⟨y21, hy21, hOy21⟩ := bindS h
    refine WC.join (fun σ' S' e' => IsW y21 v4 ∧ Known ([(5, v4)]) σ' ∧ Hp [] [] S' [(i1, .cells [(.int .i64 a1.Time), (.int .i64 a1.Seq), (.int .i64 a1.Rep)])] [] [(v4, rowO e_Api_CSN 3 false y21)] ∧ e' = false) ?_ ?_
    · replace h := hy21
      rcases iteS h with ⟨hc29, h⟩ | ⟨hc29, h⟩
      · refine WC.condT rfl hc29 ?_
        refine WC.draw ?_
        refine WH.step (v := v4) rfl (nz rfl rfl) rfl rfl ?_
        refine WH.step (v := (.ptr i1 2)) rfl (nz rfl rfl) rfl rfl ?_
        refine WH.step (v := (.int .i64 a1.Rep)) rfl (nz rfl (stp_load rfl (H.get 0 rfl) rfl)) rfl rfl ?_
        refine WH.step (v := v4) rfl (nz rfl rfl) rfl rfl ?_
        refine WH.step (v := (.ptr i1 2)) rfl (nz rfl rfl) rfl rfl ?_
        refine WH.step (v := (.int .i64 a1.Rep)) rfl (nz rfl (stp_load rfl (H.get 0 rfl) rfl)) rfl rfl ?_
        obtain ⟨y23, hy23, h⟩ := bindS h
        obtain ⟨i24, hi24⟩ := IsW.id hv4 hy23
        refine WH.step (v := (.ptr i24 (Int.toNat a1.Rep * 3 + 0))) rfl (nz rfl (stp_idxW (sz := 3) rfl hv4 rfl rfl rfl hy23 hi24)) rfl rfl ?_
        refine WH.step (v := (.agg [(.int .i64 y23.Time), (.int .i64 y23.Seq), (.int .i64 y23.Rep)])) rfl (nz rfl (stp_loadW rfl (H.getW 0 rfl hi24) hy23 (Nat.le_of_ble_eq_true rfl) rfl)) rfl rfl ?_
        refine WH.step (v := (.agg [(.int .i64 a1.Time), (.int .i64 a1.Seq), (.int .i64 a1.Rep)])) rfl (nz rfl (stp_load rfl (H.get 0 rfl) rfl)) rfl rfl ?_
        obtain ⟨y25, hy25, h⟩ := bindS h
        refine WH.step (v := (.agg [(.int .i64 y25.Time), (.int .i64 y25.Seq), (.int .i64 y25.Rep)])) rfl (nz rfl (stp_call (vs := [(.agg [(.int .i64 y23.Time), (.int .i64 y23.Seq), (.int .i64 y23.Rep)]), (.agg [(.int .i64 a1.Time), (.int .i64 a1.Seq), (.int .i64 a1.Rep)])]) rfl rfl (s48 _ hy25 rfl _))) rfl rfl ?_
        refine WH.nil ?_
        obtain ⟨y26, hy26, h⟩ := bindS h
        obtain ⟨i27, hi27⟩ := IsW.id hv4 hy26
        refine WO.step (v := (.ptr i27 (Int.toNat a1.Rep * 3 + 0))) rfl (nz rfl (stp_idxW (sz := 3) rfl hv4 rfl rfl rfl hy26 hi27)) ?_
        refine WO.storeW 0 (f := e_Api_CSN) (u := (.agg [(.int .i64 y25.Time), (.int .i64 y25.Seq), (.int .i64 y25.Rep)])) (y' := y25) (xc := [(.int .i64 y25.Time), (.int .i64 y25.Seq), (.int .i64 y25.Rep)]) (e' := false) rfl rfl H rfl hi27 rfl rfl hy26 rfl rfl rfl rfl (Nat.le_of_ble_eq_true rfl) (Nat.le_of_ble_eq_true rfl) rfl (clean_e (by simp [PV.clean, cleanL])) ?_
        intro S H
        have hw28 := IsW.set hv4 a1.Rep y25
        replace H : Hp [] [] _ [(i1, .cells [(.int .i64 a1.Time), (.int .i64 a1.Seq), (.int .i64 a1.Rep)])] [] [(v4, rowO e_Api_CSN 3 false (Sl.set y3 a1.Rep y25))] := H
        refine WO.nil ?_
        refine KX.seq_n ?_
        obtain rfl := Option.some.inj h
        exact ⟨hw28, (known_cons rfl known_nil), (H.sub (.cons_cons _ .slnil) .slnil (.cons_cons _ .slnil)), rfl⟩
      · refine WC.condF rfl hc29 ?_
        refine WC.skip ?_
        refine KX.seq_n ?_
        obtain rfl := Option.some.inj h
        exact ⟨hv4, (known_cons rfl known_nil), (H.sub (.cons_cons _ .slnil) .slnil (.cons_cons _ .slnil)), rfl⟩
    · rintro σ S e ⟨hw22, hk, H, rfl⟩
      replace h := hOy21
      refine KX.of_known hk ?_
      refine KX.seq_n ?_
      refine WC.seqR ?_
      refine WO.step (v := v4) rfl (nz rfl rfl) ?_
      refine WO.step (v := v4) rfl (nz rfl rfl) ?_
      refine WO.nil ?_
      refine WC.ret ?_
      obtain rfl := Option.some.inj h
      obtain ⟨S, q30, H⟩ := IsW.frz (f := e_Api_CSN) H 0 rfl hw22
      replace H : Hp [] [] _ [(i1, .cells [(.int .i64 a1.Time), (.int .i64 a1.Seq), (.int .i64 a1.Rep)])] [] [(v4, rowO e_Api_CSN 3 true y21)] := H
      refine KB.retZ (vs := [v4]) (res_tmp rfl res_nil) (fl_W q30 rfl) ?_
      exact (by simp only [st_tup, List.map_cons, List.map_nil, tupled, strip_enc])
-- 30 prefect/vector.Leq
def F30_L0 (k : Nat) (a58 : Sl Api_CSN) (a59 : Sl Api_CSN) (a60 : Int) : Nat → Int → Option (Out Bool Int)
  | 0, _ => none
  | n + 1, x61 =>
    if decide (x61 < a60) then
    Option.bind (Sl.at? a59 x61) fun y74 =>
    Option.bind (if decide (x61 ≥ (Sl.len a58)) then
    some true
    else
    Option.bind (Sl.at? a58 x61) fun y80 =>
    Option.bind (F50 k y74 y80) fun y81 =>
    some (decide (y81 > 0))) fun y79 =>
    if y79 then
    some (Out.ret false)
    else
    F30_L0 k a58 a59 a60 n (ad .i64 x61 1)
    else
    some (Out.brk x61)
/-- prefect/vector.Leq -/
def F30 (k : Nat) (a0 : Sl Api_CSN) (a1 : Sl Api_CSN) : Option Bool :=
  Option.bind (F47 k a0) fun y1 =>
  Option.bind (F47 k a1) fun y2 =>
  Option.bind (F30_L0 k y2 y1 (Sl.len y1) k 0) fun y86 =>
  match y86 with
  | .ret y86r => some y86r
  | .brk y86b =>
  some true
theorem l30_L0 {k : Nat} {a58 : Sl Api_CSN} {a59 : Sl Api_CSN} {a60 : Int} {S0 : List SObj} {R : List Nat} {K : KX}  {o : Out Bool Int}
    (hret : ∀ r : Bool, o = .ret r → ∀ {σ' : Nat → PV} {S' : List SObj}, Known [(4, (.bool r))] σ' → Hp S0 R S' [] [] [] → K .ret σ' S' false)
    (hbrk : ∀ y : Int, o = .brk y → ∀ {σ' : Nat → PV} {S' : List SObj}, Known [(13, (.int .i64 y))] σ' → Hp S0 R S' [] [] [] → K (.exit 0) σ' S' false) :
    ∀ {n : Nat} {x61 : Int}, F30_L0 k a58 a59 a60 n x61 = some o → ∀ {σ : Nat → PV} {S : List SObj}, Known [(1, (encSl e_Api_CSN a58)), (11, (encSl e_Api_CSN a59)), (12, (.int .i64 a60)), (13, (.int .i64 x61))] σ → Hp S0 R S [] [] [] → WC env ⟨32, S0.length⟩ (.loop pc30L0) σ S false K := by
  intro n
  induction n with
  | zero => intro _ h; cases h
  | succ n ih =>
    intro x61 h σ S  hk H
    rw [F30_L0] at h
    refine WC.loop ?_
    refine WC.of_known hk ?_
    refine WC.seqR ?_
    refine WO.step (v := (.bool (decide (x61 < a60)))) rfl (nz rfl rfl) ?_
    refine WO.nil ?_
    refine WC.seq ?_
    rcases iteS h with ⟨hc85, h⟩ | ⟨hc85, h⟩
    · refine WC.condT rfl hc85 ?_
      refine WC.skip ?_
      refine KX.seq_n ?_
      refine WC.seq ?_
      refine WC.block ?_
      refine WC.seqR ?_
      refine WO.step (v := (.int .i64 x61)) rfl (nz rfl rfl) ?_
      obtain ⟨y74, hy74, h⟩ := bindS h
      refine WO.step (v := (.iptr [(.int .i64 y74.Time), (.int .i64 y74.Seq), (.int .i64 y74.Rep)] 0)) rfl (nz rfl (stp_idxAddr rfl (isSl_enc _ _) rfl rfl rfl hy74 (e_Api_CSN_cells _) rfl)) ?_
      refine WO.step (v := (.agg [(.int .i64 y74.Time), (.int .i64 y74.Seq), (.int .i64 y74.Rep)])) rfl (nz rfl rfl) ?_
      refine WO.alloc' (ti := ty50) rfl rfl rfl rfl H ?_
      intro i75 S hi75 H
      refine WO.step (v := (.int .i64 x61)) rfl (nz rfl rfl) ?_
      refine WO.store 0 rfl rfl H rfl rfl rfl rfl rfl rfl rfl (Nat.le_of_ble_eq_true rfl) rfl (own_e hi75) ?_
      intro S H
      replace H : Hp S0 R _ [(i75, .cells [(.int .i64 y74.Time), (.int .i64 y74.Seq), (.int .i64 y74.Rep)])] [] [] := H
      refine WO.nil ?_
      refine WC.seq ?_
      refine WC.draw ?_
      refine WH.step (v := (.int .i64 x61)) rfl (nz rfl rfl) rfl rfl ?_
      refine WH.step (v := (encSl e_Api_CSN a58)) rfl (nz rfl rfl) rfl rfl ?_
      refine WH.step (v := (.int .i64 (Sl.len a58))) rfl (nz rfl (stp_len rfl (isSl_enc _ _) rfl)) rfl rfl ?_
      refine WH.step (v := (.bool (decide (x61 ≥ (Sl.len a58))))) rfl (nz rfl rfl) rfl rfl ?_
      refine WH.step (v := (.bool (decide (x61 ≥ (Sl.len a58))))) rfl (nz rfl rfl) rfl rfl ?_
      obtain ⟨y79, hy79, hOy79⟩ := bindS h
      refine WD.split 3 (fun σ' S' e' => Known ([(1, (encSl e_Api_CSN a58)), (11, (encSl e_Api_CSN a59)), (12, (.int .i64 a60)), (13, (.int .i64 x61)), (30, (.bool y79))]) σ' ∧ Hp S0 R S' [(i75, .cells [(.int .i64 y74.Time), (.int .i64 y74.Seq), (.int .i64 y74.Rep)])] [] [] ∧ e' = false) ?_ ?_
      · replace h := hy79
        cases hc82 : (decide (x61 ≥ (Sl.len a58)))
        · replace h := iteF h hc82
          refine WH.go0 rfl rfl ?_
          refine WH.step (v := (.agg [(.int .i64 y74.Time), (.int .i64 y74.Seq), (.int .i64 y74.Rep)])) rfl (nz rfl (stp_load rfl (H.get 0 rfl) rfl)) rfl rfl ?_
          refine WH.go0 rfl rfl ?_
          refine WH.step (v := (encSl e_Api_CSN a58)) rfl (nz rfl rfl) rfl rfl ?_
          refine WH.go0 rfl rfl ?_
          refine WH.step (v := (.int .i64 x61)) rfl (nz rfl rfl) rfl rfl ?_
          refine WH.go0 rfl rfl ?_
          obtain ⟨y80, hy80, h⟩ := bindS h
          refine WH.step (v := (.iptr [(.int .i64 y80.Time), (.int .i64 y80.Seq), (.int .i64 y80.Rep)] 0)) rfl (nz rfl (stp_idxAddr rfl (isSl_enc _ _) rfl rfl rfl hy80 (e_Api_CSN_cells _) rfl)) rfl rfl ?_
          refine WH.go0 rfl rfl ?_
          refine WH.step (v := (.agg [(.int .i64 y80.Time), (.int .i64 y80.Seq), (.int .i64 y80.Rep)])) rfl (nz rfl rfl) rfl rfl ?_
          refine WH.nil ?_
          refine WO.go0 rfl rfl ?_
          obtain ⟨y81, hy81, h⟩ := bindS h
          refine WO.step (v := (.int .i64 y81)) rfl (nz rfl (stp_call (vs := [(.agg [(.int .i64 y74.Time), (.int .i64 y74.Seq), (.int .i64 y74.Rep)]), (.agg [(.int .i64 y80.Time), (.int .i64 y80.Seq), (.int .i64 y80.Rep)])]) rfl rfl (s50 _ hy81 rfl _))) ?_
          refine WO.go0 rfl rfl ?_
          refine WO.step (v := (.bool (decide (y81 > 0)))) rfl (nz rfl rfl) ?_
          refine WO.step (v := (.bool (decide (y81 > 0)))) rfl (nz rfl rfl) ?_
          refine WO.nil ?_
          obtain rfl := Option.some.inj h
          exact ⟨(known_cons rfl (known_cons rfl (known_cons rfl (known_cons rfl (known_cons rfl known_nil))))), (H.sub (.cons_cons _ .slnil) .slnil .slnil), rfl⟩
        · replace h := iteT h hc82
          refine WH.by rfl rfl rfl ?_
          refine WH.by rfl rfl rfl ?_
          refine WH.by rfl rfl rfl ?_
          refine WH.by rfl rfl rfl ?_
          refine WH.by rfl rfl rfl ?_
          refine WH.nil ?_
          refine WO.by rfl rfl rfl ?_
          refine WO.by rfl rfl rfl ?_
          refine WO.step (v := (.bool true)) rfl (nz rfl rfl) ?_
          refine WO.nil ?_
          obtain rfl := Option.some.inj h
          exact ⟨(known_cons rfl (known_cons rfl (known_cons rfl (known_cons rfl (known_cons rfl known_nil))))), (H.sub (.cons_cons _ .slnil) .slnil .slnil), rfl⟩
      · rintro σ S e ⟨hk, H, rfl⟩
        replace h := hOy79
        refine WO.of_known hk ?_
        refine WO.nil ?_
        refine KX.seq_n ?_
        rcases iteS h with ⟨hc84, h⟩ | ⟨hc84, h⟩
        · refine WC.condT rfl hc84 ?_
          refine WC.seqR ?_
          refine WO.step (v := (.bool false)) rfl (nz rfl rfl) ?_
          refine WO.nil ?_
          refine WC.ret ?_
          refine KX.block_r ?_
          refine KX.seq_r ?_
          refine KX.seq_r ?_
          obtain rfl := Option.some.inj h
          exact hret _ rfl (known_cons rfl known_nil) (H.sub (.cons _ .slnil) .slnil .slnil)
        · refine WC.condF rfl hc84 ?_
          refine WC.skip ?_
          refine KX.block_n ?_
          refine KX.seq_n ?_
          refine WC.region ?_
          refine WO.step (v := (.int .i64 (ad .i64 x61 1))) rfl (nz rfl rfl) ?_
          refine WO.step (v := (.int .i64 (ad .i64 x61 1))) rfl (nz rfl rfl) ?_
          refine WO.nil ?_
          refine KX.seq_n ?_
          exact ih h  (known_cons rfl (known_cons rfl (known_cons rfl (known_cons rfl known_nil)))) (H.sub (.cons _ .slnil) .slnil .slnil)
    · refine WC.condF rfl hc85 ?_
      refine WC.exit ?_
      refine KX.seq_x ?_
      refine KX.seq_x ?_
      obtain rfl := Option.some.inj h
      exact hbrk _ rfl  (known_cons rfl known_nil) (H.sub .slnil .slnil .slnil)
theorem s30 : ∀ k : Nat, ∀ {a0 : Sl Api_CSN} {a1 : Sl Api_CSN} {r : Bool}, F30 k a0 a1 = some r → ∀ {vs : List PV}, vs.map PV.strip = [(encSl e_Api_CSN a0), (encSl e_Api_CSN a1)] → ∀ S : List SObj, evw env 30 vs S = some ((.bool r), S, false) := by
  intro k a0 a1 r h vs ha S
  unfold F30 at h
  refine evw_pureW (pf := fn30) rfl rfl ha (Nat.le_of_ble_eq_true rfl) (by simp [PV.clean, cleanL, clean_encSl clean_Api_CSN]) rfl ?_
  refine WB.of (pf := fn30) rfl ?_
  have H := Hp.start []
  refine WC.seqR ?_
  refine WO.step (v := (.bool false)) rfl (nz rfl rfl) ?_
  refine WO.nil ?_
  refine WC.seqR ?_
  refine WO.step (v := (encSl e_Api_CSN a0)) rfl (nz rfl rfl) ?_
  obtain ⟨y1, hy1, h⟩ := bindS h
  refine WO.step (v := (encSl e_Api_CSN y1)) rfl (nz (fz_tmp' (isSl_enc _ _).frz rfl) (stp_call (vs := [(encSl e_Api_CSN a0)]) rfl rfl (s47 _ hy1 (by simp only [strip_enc, List.map_cons, List.map_nil, tupled]) _))) ?_
  refine WO.step (v := (encSl e_Api_CSN a1)) rfl (nz rfl rfl) ?_
  obtain ⟨y2, hy2, h⟩ := bindS h
  refine WO.step (v := (encSl e_Api_CSN y2)) rfl (nz (fz_tmp' (isSl_enc _ _).frz rfl) (stp_call (vs := [(encSl e_Api_CSN a1)]) rfl rfl (s47 _ hy2 (by simp only [strip_enc, List.map_cons, List.map_nil, tupled]) _))) ?_
  refine WO.step (v := (encSl e_Api_CSN y1)) rfl (nz rfl rfl) ?_
  refine WO.step (v := (encSl e_Api_CSN y2)) rfl (nz rfl rfl) ?_
  refine WO.nil ?_
  refine WC.seq ?_
  refine WC.seqR ?_
  refine WO.step (v := (encSl e_Api_CSN y1)) rfl (nz rfl rfl) ?_
  refine WO.step (v := (.int .i64 (Sl.len y1))) rfl (nz rfl (stp_len rfl (isSl_enc _ _) rfl)) ?_
  refine WO.step (v := (.int .i64 0)) rfl (nz rfl rfl) ?_
  refine WO.nil ?_
  obtain ⟨y86, hy86, hOy86⟩ := bindS h
  refine WC.block ?_
  refine l30_L0 ?_ ?_ hy86  (known_cons rfl (known_cons rfl (known_cons rfl (known_cons rfl known_nil)))) (H.sub .slnil .slnil .slnil)
  · intro y86r he σ S  hk H; subst he; replace h := hOy86; dsimp only at h
    refine KX.of_known hk ?_
    refine KX.block_r ?_
    refine KX.seq_r ?_
    obtain rfl := Option.some.inj h
    refine KB.ret (vs := [(.bool y86r)]) (res_tmp rfl res_nil) (fl_cons' rfl rfl) ?_
    exact rfl
  · intro y86b he σ S  hk H; subst he; replace h := hOy86; dsimp only at h
    refine KX.of_known hk ?_
    refine KX.block_x ?_
    refine KX.seq_n ?_
    refine WC.seqR ?_
    refine WO.step (v := (.bool true)) rfl (nz rfl rfl) ?_
    refine WO.nil ?_
    refine WC.ret ?_
    obtain rfl := Option.some.inj h
    refine KB.ret (vs := [(.bool true)]) (res_tmp rfl res_nil) (fl_cons' rfl rfl) ?_
    exact rfl
-- 32 prefect/vector.Covers
/-- prefect/vector.Covers -/
def F32 (k : Nat) (a0 : Sl Api_CSN) (a1 : Api_CSN) : Option Bool :=
  Option.bind (F47 k a0) fun y2 =>
  Option.bind (if (decide (a1.Rep ≥ 0)) && (decide (a1.Rep < (Sl.len y2))) then
  Option.bind (Sl.at? y2 a1.Rep) fun y8 =>
  Option.bind (F50 k a1 y8) fun y9 =>
  some (decide (y9 ≤ 0))
  else
  some false) fun y7 =>
  some y7
theorem s32 : ∀ k : Nat, ∀ {a0 : Sl Api_CSN} {a1 : Api_CSN} {r : Bool}, F32 k a0 a1 = some r → ∀ {vs : List PV}, vs.map PV.strip = [(encSl e_Api_CSN a0), (.agg [(.int .i64 a1.Time), (.int .i64 a1.Seq), (.int .i64 a1.Rep)])] → ∀ S : List SObj, evw env 32 vs S = some ((.bool r), S, false) := by
  intro k a0 a1 r h vs ha S
  unfold F32 at h
  refine evw_pureW (pf := fn32) rfl rfl ha (Nat.le_of_ble_eq_true rfl) (by simp [PV.clean, cleanL, clean_encSl clean_Api_CSN]) rfl ?_
  refine WB.of (pf := fn32) rfl ?_
  have H := Hp.start []
  refine WC.seqR ?_
  refine WO.box' rfl rfl rfl rfl rfl H ?_
  intro i1 S hi1 H
  refine WO.step (v := (.bool false)) rfl (nz rfl rfl) ?_
  refine WO.nil ?_
  refine WC.seqR ?_
  refine WO.step (v := (encSl e_Api_CSN a0)) rfl (nz rfl rfl) ?_
  obtain ⟨y2, hy2, h⟩ := bindS h
  refine WO.step (v := (encSl e_Api_CSN y2)) rfl (nz (fz_tmp' (isSl_enc _ _).frz rfl) (stp_call (vs := [(encSl e_Api_CSN a0)]) rfl rfl (s47 _ hy2 (by simp only [strip_enc, List.map_cons, List.map_nil, tupled]) _))) ?_
  refine WO.step (v := (encSl e_Api_CSN y2)) rfl (nz rfl rfl) ?_
  refine WO.nil ?_
  refine WC.seq ?_
  refine WC.draw ?_
  refine WH.step (v := (.ptr i1 2)) rfl (nz rfl rfl) rfl rfl ?_
  refine WH.step (v := (.int .i64 a1.Rep)) rfl (nz rfl (stp_load rfl (H.get 0 rfl) rfl)) rfl rfl ?_
  refine WH.step (v := (.bool (decide (a1.Rep ≥ 0)))) rfl (nz rfl rfl) rfl rfl ?_
  refine WH.step (v := (.bool (decide (a1.Rep ≥ 0)))) rfl (nz rfl rfl) rfl rfl ?_
  refine WH.split 6 (fun σ' => Known ([(0, (encSl e_Api_CSN y2)), (3, (.ptr i1 0)), (16, (.bool ((decide (a1.Rep ≥ 0)) && (decide (a1.Rep < (Sl.len y2))))))]) σ') ?_ ?_
  · cases hc3 : (decide (a1.Rep ≥ 0))
    · skip
      refine WH.by rfl rfl rfl ?_
      refine WH.by rfl rfl rfl ?_
      refine WH.by rfl rfl rfl ?_
      refine WH.by rfl rfl rfl ?_
      refine WH.by rfl rfl rfl ?_
      refine WH.step (v := (.bool false)) rfl (nz rfl rfl) rfl rfl ?_
      refine WH.nil ?_
      exact (known_cons rfl (known_cons rfl (known_cons rfl known_nil)))
    · skip
      refine WH.go0 rfl rfl ?_
      refine WH.step (v := (.ptr i1 2)) rfl (nz rfl rfl) rfl rfl ?_
      refine WH.go0 rfl rfl ?_
      refine WH.step (v := (.int .i64 a1.Rep)) rfl (nz rfl (stp_load rfl (H.get 0 rfl) rfl)) rfl rfl ?_
      refine WH.go0 rfl rfl ?_
      refine WH.step (v := (encSl e_Api_CSN y2)) rfl (nz rfl rfl) rfl rfl ?_
      refine WH.go0 rfl rfl ?_
      refine WH.step (v := (.int .i64 (Sl.len y2))) rfl (nz rfl (stp_len rfl (isSl_enc _ _) rfl)) rfl rfl ?_
      refine WH.go0 rfl rfl ?_
      refine WH.step (v := (.bool (decide (a1.Rep < (Sl.len y2))))) rfl (nz rfl rfl) rfl rfl ?_
      refine WH.step (v := (.bool (decide (a1.Rep < (Sl.len y2))))) rfl (nz rfl rfl) rfl rfl ?_
      refine WH.nil ?_
      exact (known_cons rfl (known_cons rfl (known_cons rfl known_nil)))
  · intro σ hk
    refine WH.of_known hk ?_
    refine WH.step (v := (.bool ((decide (a1.Rep ≥ 0)) && (decide (a1.Rep < (Sl.len y2)))))) rfl (nz rfl rfl) rfl rfl ?_
    obtain ⟨y7, hy7, hOy7⟩ := bindS h
    refine WD.split 3 (fun σ' S' e' => Known ([(26, (.bool y7))]) σ' ∧ Hp [] [] S' [(i1, .cells [(.int .i64 a1.Time), (.int .i64 a1.Seq), (.int .i64 a1.Rep)])] [] [] ∧ e' = false) ?_ ?_
    · replace h := hy7
      cases hc10 : ((decide (a1.Rep ≥ 0)) && (decide (a1.Rep < (Sl.len y2))))
      · replace h := iteF h hc10
        refine WH.by rfl rfl rfl ?_
        refine WH.by rfl rfl rfl ?_
        refine WH.by rfl rfl rfl ?_
        refine WH.by rfl rfl rfl ?_
        refine WH.by rfl rfl rfl ?_
        refine WH.by rfl rfl rfl ?_
        refine WH.nil ?_
        refine WO.by rfl rfl rfl ?_
        refine WO.by rfl rfl rfl ?_
        refine WO.step (v := (.bool false)) rfl (nz rfl rfl) ?_
        refine WO.nil ?_
        obtain rfl := Option.some.inj h
        exact ⟨(known_cons rfl known_nil), (H.sub (.cons_cons _ .slnil) .slnil .slnil), rfl⟩
      · replace h := iteT h hc10
        refine WH.go0 rfl rfl ?_
        refine WH.step (v := (.agg [(.int .i64 a1.Time), (.int .i64 a1.Seq), (.int .i64 a1.Rep)])) rfl (nz rfl (stp_load rfl (H.get 0 rfl) rfl)) rfl rfl ?_
        refine WH.go0 rfl rfl ?_
        refine WH.step (v := (encSl e_Api_CSN y2)) rfl (nz rfl rfl) rfl rfl ?_
        refine WH.go0 rfl rfl ?_
        refine WH.step (v := (.ptr i1 2)) rfl (nz rfl rfl) rfl rfl ?_
        refine WH.go0 rfl rfl ?_
        refine WH.step (v := (.int .i64 a1.Rep)) rfl (nz rfl (stp_load rfl (H.get 0 rfl) rfl)) rfl rfl ?_
        refine WH.go0 rfl rfl ?_
        obtain ⟨y8, hy8, h⟩ := bindS h
        refine WH.step (v := (.iptr [(.int .i64 y8.Time), (.int .i64 y8.Seq), (.int .i64 y8.Rep)] 0)) rfl (nz rfl (stp_idxAddr rfl (isSl_enc _ _) rfl rfl rfl hy8 (e_Api_CSN_cells _) rfl)) rfl rfl ?_
        refine WH.go0 rfl rfl ?_
        refine WH.step (v := (.agg [(.int .i64 y8.Time), (.int .i64 y8.Seq), (.int .i64 y8.Rep)])) rfl (nz rfl rfl) rfl rfl ?_
        refine WH.nil ?_
        refine WO.go0 rfl rfl ?_
        obtain ⟨y9, hy9, h⟩ := bindS h
        refine WO.step (v := (.int .i64 y9)) rfl (nz rfl (stp_call (vs := [(.agg [(.int .i64 a1.Time), (.int .i64 a1.Seq), (.int .i64 a1.Rep)]), (.agg [(.int .i64 y8.Time), (.int .i64 y8.Seq), (.int .i64 y8.Rep)])]) rfl rfl (s50 _ hy9 rfl _))) ?_
        refine WO.go0 rfl rfl ?_
        refine WO.step (v := (.bool (decide (y9 ≤ 0)))) rfl (nz rfl rfl) ?_
        refine WO.step (v := (.bool (decide (y9 ≤ 0)))) rfl (nz rfl rfl) ?_
        refine WO.nil ?_
        obtain rfl := Option.some.inj h
        exact ⟨(known_cons rfl known_nil), (H.sub (.cons_cons _ .slnil) .slnil .slnil), rfl⟩
    · rintro σ S e ⟨hk, H, rfl⟩
      replace h := hOy7
      refine WO.of_known hk ?_
      refine WO.step (v := (.bool y7)) rfl (nz rfl rfl) ?_
      refine WO.nil ?_
      refine KX.seq_n ?_
      refine WC.ret ?_
      obtain rfl := Option.some.inj h
      refine KB.ret (vs := [(.bool y7)]) (res_tmp rfl res_nil) (fl_cons' rfl rfl) ?_
      exact rfl
-- 52_50 slices.MinFunc[prefect/api.Vector,prefect/api.CSN]
def F52_50_L0 (k : Nat) (a52 : Sl Api_CSN) (a55 : Api_CSN) : Nat → Int → Api_CSN → Option (Int × Api_CSN)
  | 0, _, _ => none
  | n + 1, x53, b54 =>
    if decide (x53 < (Sl.len a52)) then
    Option.bind (Sl.at? a52 x53) fun y66 =>
    Option.bind (F50 k y66 b54) fun y67 =>
    Option.bind (if decide (y67 < 0) then
    Option.bind (Sl.at? a52 x53) fun y73 =>
    some y73
    else
    some b54) fun y72 =>
    F52_50_L0 k a52 a55 n (ad .i64 x53 1) y72
    else
    some (x53, b54)
/-- slices.MinFunc[prefect/api.Vector,prefect/api.CSN] -/
def F52_50 (k : Nat) (a0 : Sl Api_CSN) : Option Api_CSN :=
  if decide ((Sl.len a0) < 1) then
  none
  else
  Option.bind (Sl.at? a0 0) fun y3 =>
  Option.bind (F52_50_L0 k a0 (Api_CSN.mk 0 0 0) k 1 y3) fun y76 =>
  some y76.2
theorem l52_50_L0 {k : Nat} {a52 : Sl Api_CSN} {a55 : Api_CSN} {S0 : List SObj} {R : List Nat} {K : KX} {i4 : Nat} {i1 : Nat} (hi4 : S0.length ≤ i4) (hi1 : S0.length ≤ i1)  {o : (Int × Api_CSN)}
    (hbrk : ∀ {σ' : Nat → PV} {S' : List SObj}, Known [(4, (.ptr i1 0)), (5, (.ptr i4 0)), (6, (.int .i64 o.1))] σ' → Hp S0 R S' [(i4, .cells [(.int .i64 o.2.Time), (.int .i64 o.2.Seq), (.int .i64 o.2.Rep)]), (i1, .cells [(.int .i64 a55.Time), (.int .i64 a55.Seq), (.int .i64 a55.Rep)])] [] [] → K (.exit 0) σ' S' false) :
    ∀ {n : Nat} {x53 : Int} {b54 : Api_CSN}, F52_50_L0 k a52 a55 n x53 b54 = some o → ∀ {σ : Nat → PV} {S : List SObj}, Known [(0, (encSl e_Api_CSN a52)), (1, (.fn (.func 50) [] [])), (4, (.ptr i1 0)), (5, (.ptr i4 0)), (6, (.int .i64 x53))] σ → Hp S0 R S [(i4, .cells [(.int .i64 b54.Time), (.int .i64 b54.Seq), (.int .i64 b54.Rep)]), (i1, .cells [(.int .i64 a55.Time), (.int .i64 a55.Seq), (.int .i64 a55.Rep)])] [] [] → WC env ⟨33, S0.length⟩ (.loop pc52L0) σ S false K := by
  intro n
  induction n with
  | zero => intro _ _ h; cases h
  | succ n ih =>
    intro x53 b54 h σ S  hk H
    rw [F52_50_L0] at h
    refine WC.loop ?_
    refine WC.of_known hk ?_
    refine WC.seq ?_
    refine WC.seqR ?_
    refine WO.step (v := (.int .i64 x53)) rfl (nz rfl rfl) ?_
    refine WO.step (v := (encSl e_Api_CSN a52)) rfl (nz rfl rfl) ?_
    refine WO.step (v := (.int .i64 (Sl.len a52))) rfl (nz rfl (stp_len rfl (isSl_enc _ _) rfl)) ?_
    refine WO.step (v := (.bool (decide (x53 < (Sl.len a52))))) rfl (nz rfl rfl) ?_
    refine WO.nil ?_
    rcases iteS h with ⟨hc75, h⟩ | ⟨hc75, h⟩
    · refine WC.condT rfl hc75 ?_
      refine WC.skip ?_
      refine KX.seq_n ?_
      refine WC.seq ?_
      refine WC.block ?_
      refine WC.seq ?_
      refine WC.draw ?_
      refine WH.step (v := (.fn (.func 50) [] [])) rfl (nz rfl rfl) rfl rfl ?_
      refine WH.step (v := (encSl e_Api_CSN a52)) rfl (nz rfl rfl) rfl rfl ?_
      refine WH.step (v := (.int .i64 x53)) rfl (nz rfl rfl) rfl rfl ?_
      obtain ⟨y66, hy66, h⟩ := bindS h
      refine WH.step (v := (.iptr [(.int .i64 y66.Time), (.int .i64 y66.Seq), (.int .i64 y66.Rep)] 0)) rfl (nz rfl (stp_idxAddr rfl (isSl_enc _ _) rfl rfl rfl hy66 (e_Api_CSN_cells _) rfl)) rfl rfl ?_
      refine WH.step (v := (.agg [(.int .i64 y66.Time), (.int .i64 y66.Seq), (.int .i64 y66.Rep)])) rfl (nz rfl rfl) rfl rfl ?_
      refine WH.step (v := (.agg [(.int .i64 b54.Time), (.int .i64 b54.Seq), (.int .i64 b54.Rep)])) rfl (nz rfl (stp_load rfl (H.get 0 rfl) rfl)) rfl rfl ?_
      refine WH.nil ?_
      obtain ⟨y67, hy67, h⟩ := bindS h
      refine WO.step (v := (.int .i64 y67)) rfl (nz rfl (stp_call (vs := [(.agg [(.int .i64 y66.Time), (.int .i64 y66.Seq), (.int .i64 y66.Rep)]), (.agg [(.int .i64 b54.Time), (.int .i64 b54.Seq), (.int .i64 b54.Rep)])]) rfl rfl (s50 _ hy67 rfl _))) ?_
      refine WO.step (v := (.bool (decide (y67 < 0)))) rfl (nz rfl rfl) ?_
      refine WO.nil ?_
      refine KX.seq_n ?_
      obtain ⟨y72, hy72, hOy72⟩ := bindS h
      refine WC.join (fun σ' S' e' => Known ([(0, (encSl e_Api_CSN a52)), (1, (.fn (.func 50) [] [])), (4, (.ptr i1 0)), (5, (.ptr i4 0)), (6, (.int .i64 x53))]) σ' ∧ Hp S0 R S' [(i4, .cells [(.int .i64 y72.Time), (.int .i64 y72.Seq), (.int .i64 y72.Rep)]), (i1, .cells [(.int .i64 a55.Time), (.int .i64 a55.Seq), (.int .i64 a55.Rep)])] [] [] ∧ e' = false) ?_ ?_
      · replace h := hy72
        rcases iteS h with ⟨hc74, h⟩ | ⟨hc74, h⟩
        · refine WC.condT rfl hc74 ?_
          refine WC.region ?_
          refine WO.step (v := (encSl e_Api_CSN a52)) rfl (nz rfl rfl) ?_
          refine WO.step (v := (.int .i64 x53)) rfl (nz rfl rfl) ?_
          obtain ⟨y73, hy73, h⟩ := bindS h
          refine WO.step (v := (.iptr [(.int .i64 y73.Time), (.int .i64 y73.Seq), (.int .i64 y73.Rep)] 0)) rfl (nz rfl (stp_idxAddr rfl (isSl_enc _ _) rfl rfl rfl hy73 (e_Api_CSN_cells _) rfl)) ?_
          refine WO.step (v := (.agg [(.int .i64 y73.Time), (.int .i64 y73.Seq), (.int .i64 y73.Rep)])) rfl (nz rfl rfl) ?_
          refine WO.store 0 rfl rfl H rfl rfl rfl rfl rfl rfl rfl (Nat.le_of_ble_eq_true rfl) rfl (own_e hi4) ?_
          intro S H
          replace H : Hp S0 R _ [(i4, .cells [(.int .i64 y73.Time), (.int .i64 y73.Seq), (.int .i64 y73.Rep)]), (i1, .cells [(.int .i64 a55.Time), (.int .i64 a55.Seq), (.int .i64 a55.Rep)])] [] [] := H
          refine WO.nil ?_
          refine KX.seq_n ?_
          obtain rfl := Option.some.inj h
          exact ⟨(known_cons rfl (known_cons rfl (known_cons rfl (known_cons rfl (known_cons rfl known_nil))))), (H.sub (.cons_cons _ (.cons_cons _ .slnil)) .slnil .slnil), rfl⟩
        · refine WC.condF rfl hc74 ?_
          refine WC.skip ?_
          refine KX.seq_n ?_
          obtain rfl := Option.some.inj h
          exact ⟨(known_cons rfl (known_cons rfl (known_cons rfl (known_cons rfl (known_cons rfl known_nil))))), (H.sub (.cons_cons _ (.cons_cons _ .slnil)) .slnil .slnil), rfl⟩
      · rintro σ S e ⟨hk, H, rfl⟩
        replace h := hOy72
        refine KX.of_known hk ?_
        refine KX.block_n ?_
        refine KX.seq_n ?_
        refine WC.region ?_
        refine WO.step (v := (.int .i64 x53)) rfl (nz rfl rfl) ?_
        refine WO.step (v := (.int .i64 (ad .i64 x53 1))) rfl (nz rfl rfl) ?_
        refine WO.step (v := (.int .i64 (ad .i64 x53 1))) rfl (nz rfl rfl) ?_
        refine WO.nil ?_
        refine KX.seq_n ?_
        exact ih h  (known_cons rfl (known_cons rfl (known_cons rfl (known_cons rfl (known_cons rfl known_nil))))) (H.sub (.cons_cons _ (.cons_cons _ .slnil)) .slnil .slnil)
    · refine WC.condF rfl hc75 ?_
      refine WC.exit ?_
      refine KX.seq_x ?_
      refine KX.seq_x ?_
      obtain rfl := Option.some.inj h
      exact hbrk  (known_cons rfl (known_cons rfl (known_cons rfl known_nil))) (H.sub (.cons_cons _ (.cons_cons _ .slnil)) .slnil .slnil)
theorem s52_50 : ∀ k : Nat, ∀ {a0 : Sl Api_CSN} {r : Api_CSN}, F52_50 k a0 = some r → ∀ {vs : List PV}, vs.map PV.strip = [(encSl e_Api_CSN a0), (.fn (.func 50) [] [])] → ∀ S : List SObj, evw env 52 vs S = some ((.agg [(.int .i64 r.Time), (.int .i64 r.Seq), (.int .i64 r.Rep)]), S, false) := by
  intro k a0 r h vs ha S
  unfold F52_50 at h
  refine evw_pureW (pf := fn52) rfl rfl ha (Nat.le_of_ble_eq_true rfl) (by simp [PV.clean, cleanL, clean_encSl clean_Api_CSN]) rfl ?_
  refine WB.of (pf := fn52) rfl ?_
  have H := Hp.start []
  refine WC.seqR ?_
  refine WO.alloc' (ti := ty50) rfl rfl rfl rfl H ?_
  intro i1 S hi1 H
  refine WO.nil ?_
  refine WC.seq ?_
  refine WC.seqR ?_
  refine WO.step (v := (encSl e_Api_CSN a0)) rfl (nz rfl rfl) ?_
  refine WO.step (v := (.int .i64 (Sl.len a0))) rfl (nz rfl (stp_len rfl (isSl_enc _ _) rfl)) ?_
  refine WO.step (v := (.bool (decide ((Sl.len a0) < 1)))) rfl (nz rfl rfl) ?_
  refine WO.nil ?_
  rcases iteS h with ⟨hc77, h⟩ | ⟨hc77, h⟩
  · refine WC.condT rfl hc77 ?_
    refine WC.region ?_
    refine WO.step (v := (.ifc 9 (.str [115, 108, 105, 99, 101, 115, 46, 77, 105, 110, 70, 117, 110, 99, 58, 32, 101, 109, 112, 116, 121, 32, 108, 105, 115, 116]))) rfl (nz rfl rfl) ?_
    cases h
  · refine WC.condF rfl hc77 ?_
    refine WC.skip ?_
    refine KX.seq_n ?_
    refine WC.seqR ?_
    refine WO.step (v := (encSl e_Api_CSN a0)) rfl (nz rfl rfl) ?_
    obtain ⟨y3, hy3, h⟩ := bindS h
    refine WO.step (v := (.iptr [(.int .i64 y3.Time), (.int .i64 y3.Seq), (.int .i64 y3.Rep)] 0)) rfl (nz rfl (stp_idxAddr rfl (isSl_enc _ _) rfl rfl rfl hy3 (e_Api_CSN_cells _) rfl)) ?_
    refine WO.step (v := (.agg [(.int .i64 y3.Time), (.int .i64 y3.Seq), (.int .i64 y3.Rep)])) rfl (nz rfl rfl) ?_
    refine WO.alloc' (ti := ty50) rfl rfl rfl rfl H ?_
    intro i4 S hi4 H
    refine WO.store 0 rfl rfl H rfl rfl rfl rfl rfl rfl rfl (Nat.le_of_ble_eq_true rfl) rfl (own_e hi4) ?_
    intro S H
    replace H : Hp [] [] _ [(i4, .cells [(.int .i64 y3.Time), (.int .i64 y3.Seq), (.int .i64 y3.Rep)]), (i1, .cells [(.int .i64 0), (.int .i64 0), (.int .i64 0)])] [] [] := H
    refine WO.nil ?_
    refine WC.seq ?_
    refine WC.seqR ?_
    refine WO.step (v := (.int .i64 1)) rfl (nz rfl rfl) ?_
    refine WO.nil ?_
    obtain ⟨y76, hy76, hOy76⟩ := bindS h
    refine WC.block ?_
    refine l52_50_L0 hi4 hi1 ?_ hy76  (known_cons rfl (known_cons rfl (known_cons rfl (known_cons rfl (known_cons rfl known_nil))))) (H.sub (.cons_cons _ (.cons_cons _ .slnil)) .slnil .slnil)
    · intro σ S  hk H; replace h := hOy76
      refine KX.of_known hk ?_
      refine KX.block_x ?_
      refine KX.seq_n ?_
      refine WC.seqR ?_
      refine WO.step (v := (.agg [(.int .i64 y76.2.Time), (.int .i64 y76.2.Seq), (.int .i64 y76.2.Rep)])) rfl (nz rfl (stp_load rfl (H.get 0 rfl) rfl)) ?_
      refine WO.store 1 rfl rfl H rfl rfl rfl rfl rfl rfl rfl (Nat.le_of_ble_eq_true rfl) rfl (own_e hi1) ?_
      intro S H
      replace H : Hp [] [] _ [(i4, .cells [(.int .i64 y76.2.Time), (.int .i64 y76.2.Seq), (.int .i64 y76.2.Rep)]), (i1, .cells [(.int .i64 y76.2.Time), (.int .i64 y76.2.Seq), (.int .i64 y76.2.Rep)])] [] [] := H
      refine WO.nil ?_
      refine WC.ret ?_
      obtain rfl := Option.some.inj h
      refine KB.ret (vs := [(.agg [(.int .i64 y76.2.Time), (.int .i64 y76.2.Seq), (.int .i64 y76.2.Rep)])]) (res_cell rfl (H.get 1 rfl) rfl res_nil) (fl_cons' rfl rfl) ?_
      exact rfl
-- 34 prefect/vector.Least
/-- prefect/vector.Least -/
def F34 (k : Nat) (a0 : Sl Api_CSN) : Option Api_CSN :=
  Option.bind (F47 k a0) fun y2 =>
  if (Sl.len y2) == 0 then
  some (Api_CSN.mk 0 0 0)
  else
  Option.bind (F52_50 k y2) fun y4 =>
  some y4
theorem s34 : ∀ k : Nat, ∀ {a0 : Sl Api_CSN} {r : Api_CSN}, F34 k a0 = some r → ∀ {vs : List PV}, vs.map PV.strip = [(encSl e_Api_CSN a0)] → ∀ S : List SObj, evw env 34 vs S = some ((.agg [(.int .i64 r.Time), (.int .i64 r.Seq), (.int .i64 r.Rep)]), S, false) := by
  intro k a0 r h vs ha S
  unfold F34 at h
  refine evw_pureW (pf := fn34) rfl rfl ha (Nat.le_of_ble_eq_true rfl) (by simp [PV.clean, cleanL, clean_encSl clean_Api_CSN]) rfl ?_
  refine WB.of (pf := fn34) rfl ?_
  have H := Hp.start []
  refine WC.seqR ?_
  refine WO.alloc' (ti := ty50) rfl rfl rfl rfl H ?_
  intro i1 S hi1 H
  refine WO.nil ?_
  refine WC.seqR ?_
  refine WO.step (v := (encSl e_Api_CSN a0)) rfl (nz rfl rfl) ?_
  obtain ⟨y2, hy2, h⟩ := bindS h
  refine WO.step (v := (encSl e_Api_CSN y2)) rfl (nz (fz_tmp' (isSl_enc _ _).frz rfl) (stp_call (vs := [(encSl e_Api_CSN a0)]) rfl rfl (s47 _ hy2 (by simp only [strip_enc, List.map_cons, List.map_nil, tupled]) _))) ?_
  refine WO.step (v := (encSl e_Api_CSN y2)) rfl (nz rfl rfl) ?_
  refine WO.nil ?_
  refine WC.seq ?_
  refine WC.seqR ?_
  refine WO.step (v := (encSl e_Api_CSN y2)) rfl (nz rfl rfl) ?_
  refine WO.step (v := (.int .i64 (Sl.len y2))) rfl (nz rfl (stp_len rfl (isSl_enc _ _) rfl)) ?_
  refine WO.step (v := (.bool ((Sl.len y2) == 0))) rfl (nz rfl rfl) ?_
  refine WO.nil ?_
  rcases iteS h with ⟨hc5, h⟩ | ⟨hc5, h⟩
  · refine WC.condT rfl hc5 ?_
    refine WC.seqR ?_
    refine WO.step (v := (.agg [(.int .i64 0), (.int .i64 0), (.int .i64 0)])) rfl (nz rfl (stp_build (ti := ty50) rfl rfl rfl rfl rfl rfl)) ?_
    refine WO.store 0 rfl rfl H rfl rfl rfl rfl rfl rfl rfl (Nat.le_of_ble_eq_true rfl) rfl (own_e hi1) ?_
    intro S H
    replace H : Hp [] [] _ [(i1, .cells [(.int .i64 0), (.int .i64 0), (.int .i64 0)])] [] [] := H
    refine WO.nil ?_
    refine WC.ret ?_
    refine KX.seq_r ?_
    obtain rfl := Option.some.inj h
    refine KB.ret (vs := [(.agg [(.int .i64 0), (.int .i64 0), (.int .i64 0)])]) (res_cell rfl (H.get 0 rfl) rfl res_nil) (fl_cons' rfl rfl) ?_
    exact rfl
  · refine WC.condF rfl hc5 ?_
    refine WC.skip ?_
    refine KX.seq_n ?_
    refine WC.seqR ?_
    refine WO.step (v := (encSl e_Api_CSN y2)) rfl (nz rfl rfl) ?_
    obtain ⟨y4, hy4, h⟩ := bindS h
    refine WO.step (v := (.agg [(.int .i64 y4.Time), (.int .i64 y4.Seq), (.int .i64 y4.Rep)])) rfl (nz (fz_tmp' (isSl_enc _ _).frz (fz_oth' (fun _ h => by cases h) rfl)) (stp_call (vs := [(encSl e_Api_CSN y2), (.fn (.func 50) [] [])]) rfl rfl (s52_50 _ hy4 (by simp only [strip_enc, st_fn, List.map_cons, List.map_nil, tupled]) _))) ?_
    refine WO.store 0 rfl rfl H rfl rfl rfl rfl rfl rfl rfl (Nat.le_of_ble_eq_true rfl) rfl (own_e hi1) ?_
    intro S H
    replace H : Hp [] [] _ [(i1, .cells [(.int .i64 y4.Time), (.int .i64 y4.Seq), (.int .i64 y4.Rep)])] [] [] := H
    refine WO.nil ?_
    refine WC.ret ?_
    obtain rfl := Option.some.inj h
    refine KB.ret (vs := [(.agg [(.int .i64 y4.Time), (.int .i64 y4.Seq), (.int .i64 y4.Rep)])]) (res_cell rfl (H.get 0 rfl) rfl res_nil) (fl_cons' rfl rfl) ?_
    exact rfl
-- 26 prefect/vector.Join
def F26_L0 (k : Nat) (a56 : Sl Api_CSN) (a57 : Int) : Nat → Int → (Sl Api_CSN) → Option (Int × (Sl Api_CSN))
  | 0, _, _ => none
  | n + 1, x58, w55 =>
    if decide (x58 < a57) then
    Option.bind (Sl.at? a56 x58) fun y68 =>
    Option.bind (Sl.at? w55 x58) fun y70 =>
    Option.bind (F48 k y70 y68) fun y72 =>
    Option.bind (Sl.at? w55 x58) fun y73 =>
    F26_L0 k a56 a57 n (ad .i64 x58 1) (Sl.set w55 x58 y72)
    else
    some (x58, w55)
/-- prefect/vector.Join -/
def F26 (k : Nat) (a0 : Sl Api_CSN) (a1 : Sl Api_CSN) : Option (Sl Api_CSN) :=
  Option.bind (F47 k a0) fun y1 =>
  Option.bind (F47 k a1) fun y2 =>
  Option.bind (if decide ((Sl.len y1) < (Sl.len y2)) then
  some (y2, y1)
  else
  some (y1, y2)) fun y5 =>
  Option.bind (F46 k y5.1) fun y7 =>
  Option.bind (F26_L0 k y5.2 (Sl.len y5.2) k 0 y7) fun y78 =>
  some y78.2
theorem l26_L0 {k : Nat} {a56 : Sl Api_CSN} {a57 : Int} {S0 : List SObj} {R : List Nat} {K : KX}  {o : (Int × (Sl Api_CSN))}
    (hbrk : ∀ {σ' : Nat → PV} {S' : List SObj}, ∀ (v77 : PV) (_ : IsW o.2 v77), Known [(5, v77), (23, (.int .i64 o.1))] σ' → Hp S0 R S' [] [] [(v77, rowO e_Api_CSN 3 false o.2)] → K (.exit 0) σ' S' false) :
    ∀ {n : Nat} {x58 : Int} {w55 : Sl Api_CSN}, F26_L0 k a56 a57 n x58 w55 = some o → ∀ {σ : Nat → PV} {S : List SObj}, ∀ (v54 : PV) (_ : IsW w55 v54), Known [(5, v54), (21, (encSl e_Api_CSN a56)), (22, (.int .i64 a57)), (23, (.int .i64 x58))] σ → Hp S0 R S [] [] [(v54, rowO e_Api_CSN 3 false w55)] → WC env ⟨39, S0.length⟩ (.loop pc26L0) σ S false K := by
  intro n
  induction n with
  | zero => intro _ _ h; cases h
  | succ n ih =>
    intro x58 w55 h σ S v54 hv54 hk H
    rw [F26_L0] at h
    refine WC.loop ?_
    refine WC.of_known hk ?_
    refine WC.seqR ?_
    refine WO.step (v := (.bool (decide (x58 < a57)))) rfl (nz rfl rfl) ?_
    refine WO.nil ?_
    refine WC.seq ?_
    rcases iteS h with ⟨hc76, h⟩ | ⟨hc76, h⟩
    · refine WC.condT rfl hc76 ?_
      refine WC.skip ?_
      refine KX.seq_n ?_
      refine WC.seq ?_
      refine WC.block ?_
      refine WC.seqR ?_
      refine WO.step (v := (.int .i64 x58)) rfl (nz rfl rfl) ?_
      obtain ⟨y68, hy68, h⟩ := bindS h
      refine WO.step (v := (.iptr [(.int .i64 y68.Time), (.int .i64 y68.Seq), (.int .i64 y68.Rep)] 0)) rfl (nz rfl (stp_idxAddr rfl (isSl_enc _ _) rfl rfl rfl hy68 (e_Api_CSN_cells _) rfl)) ?_
      refine WO.step (v := (.agg [(.int .i64 y68.Time), (.int .i64 y68.Seq), (.int .i64 y68.Rep)])) rfl (nz rfl rfl) ?_
      refine WO.alloc' (ti := ty50) rfl rfl rfl rfl H ?_
      intro i69 S hi69 H
      refine WO.step (v := (.int .i64 x58)) rfl (nz rfl rfl) ?_
      refine WO.store 0 rfl rfl H rfl rfl rfl rfl rfl rfl rfl (Nat.le_of_ble_eq_true rfl) rfl (own_e hi69) ?_
      intro S H
      replace H : Hp S0 R _ [(i69, .cells [(.int .i64 y68.Time), (.int .i64 y68.Seq), (.int .i64 y68.Rep)])] [] [(v54, rowO e_Api_CSN 3 false w55)] := H
      refine WO.nil ?_
      refine WC.draw ?_
      refine WH.step (v := v54) rfl (nz rfl rfl) rfl rfl ?_
      refine WH.step (v := (.int .i64 x58)) rfl (nz rfl rfl) rfl rfl ?_
      refine WH.step (v := v54) rfl (nz rfl rfl) rfl rfl ?_
      refine WH.step (v := (.int .i64 x58)) rfl (nz rfl rfl) rfl rfl ?_
      obtain ⟨y70, hy70, h⟩ := bindS h
      obtain ⟨i71, hi71⟩ := IsW.id hv54 hy70
      refine WH.step (v := (.ptr i71 (Int.toNat x58 * 3 + 0))) rfl (nz rfl (stp_idxW (sz := 3) rfl hv54 rfl rfl rfl hy70 hi71)) rfl rfl ?_
      refine WH.step (v := (.agg [(.int .i64 y70.Time), (.int .i64 y70.Seq), (.int .i64 y70.Rep)])) rfl (nz rfl (stp_loadW rfl (H.getW 0 rfl hi71) hy70 (Nat.le_of_ble_eq_true rfl) rfl)) rfl rfl ?_
      refine WH.step (v := (.agg [(.int .i64 y68.Time), (.int .i64 y68.Seq), (.int .i64 y68.Rep)])) rfl (nz rfl (stp_load rfl (H.get 0 rfl) rfl)) rfl rfl ?_
      obtain ⟨y72, hy72, h⟩ := bindS h
      refine WH.step (v := (.agg [(.int .i64 y72.Time), (.int .i64 y72.Seq), (.int .i64 y72.Rep)])) rfl (nz rfl (stp_call (vs := [(.agg [(.int .i64 y70.Time), (.int .i64 y70.Seq), (.int .i64 y70.Rep)]), (.agg [(.int .i64 y68.Time), (.int .i64 y68.Seq), (.int .i64 y68.Rep)])]) rfl rfl (s48 _ hy72 rfl _))) rfl rfl ?_
      refine WH.nil ?_
      obtain ⟨y73, hy73, h⟩ := bindS h
      obtain ⟨i74, hi74⟩ := IsW.id hv54 hy73
      refine WO.step (v := (.ptr i74 (Int.toNat x58 * 3 + 0))) rfl (nz rfl (stp_idxW (sz := 3) rfl hv54 rfl rfl rfl hy73 hi74)) ?_
      refine WO.storeW 0 (f := e_Api_CSN) (u := (.agg [(.int .i64 y72.Time), (.int .i64 y72.Seq), (.int .i64 y72.Rep)])) (y' := y72) (xc := [(.int .i64 y72.Time), (.int .i64 y72.Seq), (.int .i64 y72.Rep)]) (e' := false) rfl rfl H rfl hi74 rfl rfl hy73 rfl rfl rfl rfl (Nat.le_of_ble_eq_true rfl) (Nat.le_of_ble_eq_true rfl) rfl (clean_e (by simp [PV.clean, cleanL])) ?_
      intro S H
      have hw75 := IsW.set hv54 x58 y72
      replace H : Hp S0 R _ [(i69, .cells [(.int .i64 y68.Time), (.int .i64 y68.Seq), (.int .i64 y68.Rep)])] [] [(v54, rowO e_Api_CSN 3 false (Sl.set w55 x58 y72))] := H
      refine WO.nil ?_
      refine KX.block_n ?_
      refine KX.seq_n ?_
      refine WC.region ?_
      refine WO.step (v := (.int .i64 (ad .i64 x58 1))) rfl (nz rfl rfl) ?_
      refine WO.step (v := (.int .i64 (ad .i64 x58 1))) rfl (nz rfl rfl) ?_
      refine WO.nil ?_
      refine KX.seq_n ?_
      exact ih h v54 (hw75) (known_cons rfl (known_cons rfl (known_cons rfl (known_cons rfl known_nil)))) (H.sub (.cons _ .slnil) .slnil (.cons_cons _ .slnil))
    · refine WC.condF rfl hc76 ?_
      refine WC.exit ?_
      refine KX.seq_x ?_
      refine KX.seq_x ?_
      obtain rfl := Option.some.inj h
      exact hbrk v54 (hv54) (known_cons rfl (known_cons rfl known_nil)) (H.sub .slnil .slnil (.cons_cons _ .slnil))
theorem s26 : ∀ k : Nat, ∀ {a0 : Sl Api_CSN} {a1 : Sl Api_CSN} {r : (Sl Api_CSN)}, F26 k a0 a1 = some r → ∀ {vs : List PV}, vs.map PV.strip = [(encSl e_Api_CSN a0), (encSl e_Api_CSN a1)] → ∀ S : List SObj, evw env 26 vs S = some ((encSl e_Api_CSN r), S, false) := by
  intro k a0 a1 r h vs ha S
  unfold F26 at h
  refine evw_pureW (pf := fn26) rfl rfl ha (Nat.le_of_ble_eq_true rfl) (by simp [PV.clean, cleanL, clean_encSl clean_Api_CSN]) (by simp [PV.clean, cleanL, clean_encSl clean_Api_CSN]) ?_
  refine WB.of (pf := fn26) rfl ?_
  have H := Hp.start []
  refine WC.seqR ?_
  refine WO.step (v := .nils) rfl (nz rfl rfl) ?_
  refine WO.nil ?_
  refine WC.seqR ?_
  refine WO.step (v := (encSl e_Api_CSN a0)) rfl (nz rfl rfl) ?_
  obtain ⟨y1, hy1, h⟩ := bindS h
  refine WO.step (v := (encSl e_Api_CSN y1)) rfl (nz (fz_tmp' (isSl_enc _ _).frz rfl) (stp_call (vs := [(encSl e_Api_CSN a0)]) rfl rfl (s47 _ hy1 (by simp only [strip_enc, List.map_cons, List.map_nil, tupled]) _))) ?_
  refine WO.step (v := (encSl e_Api_CSN a1)) rfl (nz rfl rfl) ?_
  obtain ⟨y2, hy2, h⟩ := bindS h
  refine WO.step (v := (encSl e_Api_CSN y2)) rfl (nz (fz_tmp' (isSl_enc _ _).frz rfl) (stp_call (vs := [(encSl e_Api_CSN a1)]) rfl rfl (s47 _ hy2 (by simp only [strip_enc, List.map_cons, List.map_nil, tupled]) _))) ?_
  refine WO.step (v := (encSl e_Api_CSN y1)) rfl (nz rfl rfl) ?_
  refine WO.step (v := (encSl e_Api_CSN y2)) rfl (nz rfl rfl) ?_
  refine WO.nil ?_
  refine WC.seq ?_
  refine WC.seqR ?_
  refine WO.step (v := (encSl e_Api_CSN y1)) rfl (nz rfl rfl) ?_
  refine WO.step (v := (.int .i64 (Sl.len y1))) rfl (nz rfl (stp_len rfl (isSl_enc _ _) rfl)) ?_
  refine WO.step (v := (encSl e_Api_CSN y2)) rfl (nz rfl rfl) ?_
  refine WO.step (v := (.int .i64 (Sl.len y2))) rfl (nz rfl (stp_len rfl (isSl_enc _ _) rfl)) ?_
  refine WO.step (v := (.bool (decide ((Sl.len y1) < (Sl.len y2))))) rfl (nz rfl rfl) ?_
  refine WO.nil ?_
  obtain ⟨y5, hy5, hOy5⟩ := bindS h
  refine WC.join (fun σ' S' e' => Known ([(0, (encSl e_Api_CSN y5.1)), (1, (encSl e_Api_CSN y5.2))]) σ' ∧ Hp [] [] S' [] [] [] ∧ e' = false) ?_ ?_
  · replace h := hy5
    rcases iteS h with ⟨hc6, h⟩ | ⟨hc6, h⟩
    · refine WC.condT rfl hc6 ?_
      refine WC.region ?_
      refine WO.step (v := (encSl e_Api_CSN y2)) rfl (nz rfl rfl) ?_
      refine WO.step (v := (encSl e_Api_CSN y1)) rfl (nz rfl rfl) ?_
      refine WO.step (v := (encSl e_Api_CSN y2)) rfl (nz rfl rfl) ?_
      refine WO.step (v := (encSl e_Api_CSN y1)) rfl (nz rfl rfl) ?_
      refine WO.nil ?_
      refine KX.seq_n ?_
      obtain rfl := Option.some.inj h
      exact ⟨(known_cons rfl (known_cons rfl known_nil)), (H.sub .slnil .slnil .slnil), rfl⟩
    · refine WC.condF rfl hc6 ?_
      refine WC.skip ?_
      refine KX.seq_n ?_
      obtain rfl := Option.some.inj h
      exact ⟨(known_cons rfl (known_cons rfl known_nil)), (H.sub .slnil .slnil .slnil), rfl⟩
  · rintro σ S e ⟨hk, H, rfl⟩
    replace h := hOy5
    refine KX.of_known hk ?_
    refine KX.seq_n ?_
    refine WC.seqR ?_
    refine WO.step (v := (encSl e_Api_CSN y5.1)) rfl (nz rfl rfl) ?_
    obtain ⟨y7, hy7, h⟩ := bindS h
    refine WO.ex rfl (nzx (fz_tmp' (isSl_enc _ _).frz rfl) (stp_callW (vs := [(encSl e_Api_CSN y5.1)]) rfl rfl H (s46 _ hy7 (by simp only [strip_enc, List.map_cons, List.map_nil, tupled]) _))) ?_
    rintro v8 S ⟨hv8, H⟩
    replace H : Hp [] [] _ [] [] [(v8, rowO e_Api_CSN 3 false y7)] := H
    refine WO.step (v := v8) rfl (nz rfl rfl) ?_
    refine WO.nil ?_
    refine WC.seq ?_
    refine WC.seqR ?_
    refine WO.step (v := (encSl e_Api_CSN y5.2)) rfl (nz rfl rfl) ?_
    refine WO.step (v := (.int .i64 (Sl.len y5.2))) rfl (nz rfl (stp_len rfl (isSl_enc _ _) rfl)) ?_
    refine WO.step (v := (.int .i64 0)) rfl (nz rfl rfl) ?_
    refine WO.nil ?_
    obtain ⟨y78, hy78, hOy78⟩ := bindS h
    refine WC.block ?_
    refine l26_L0 ?_ hy78 v8 (hv8) (known_cons rfl (known_cons rfl (known_cons rfl (known_cons rfl known_nil)))) (H.sub .slnil .slnil (.cons_cons _ .slnil))
    · intro σ S v79 hv79 hk H; replace h := hOy78
      refine KX.of_known hk ?_
      refine KX.block_x ?_
      refine KX.seq_n ?_
      refine WC.seqR ?_
      refine WO.step (v := v79) rfl (nz rfl rfl) ?_
      refine WO.step (v := v79) rfl (nz rfl rfl) ?_
      refine WO.nil ?_
      refine WC.ret ?_
      obtain rfl := Option.some.inj h
      obtain ⟨S, q80, H⟩ := IsW.frz (f := e_Api_CSN) H 0 rfl hv79
      replace H : Hp [] [] _ [] [] [(v79, rowO e_Api_CSN 3 true y78.2)] := H
      refine KB.retZ (vs := [v79]) (res_tmp rfl res_nil) (fl_W q80 rfl) ?_
      exact (by simp only [st_tup, List.map_cons, List.map_nil, tupled, strip_enc])
-- 54 prefect/vector.Same$1
/-- prefect/vector.Same$1 -/
def F54 (k : Nat) (a0 : Api_CSN) (a1 : Api_CSN) : Option Bool :=
  some ((a0.Time == a1.Time) && ((a0.Seq == a1.Seq) && ((a0.Rep == a1.Rep) && true)))
theorem s54 : ∀ k : Nat, ∀ {a0 : Api_CSN} {a1 : Api_CSN} {r : Bool}, F54 k a0 a1 = some r → ∀ {vs : List PV}, vs.map PV.strip = [(.agg [(.int .i64 a0.Time), (.int .i64 a0.Seq), (.int .i64 a0.Rep)]), (.agg [(.int .i64 a1.Time), (.int .i64 a1.Seq), (.int .i64 a1.Rep)])] → ∀ S : List SObj, evw env 54 vs S = some ((.bool r), S, false) := by
  intro k a0 a1 r h vs ha S
  unfold F54 at h
  refine evw_pureW (pf := fn54) rfl rfl ha (Nat.le_of_ble_eq_true rfl) rfl rfl ?_
  refine WB.of (pf := fn54) rfl ?_
  have H := Hp.start []
  refine WC.seqR ?_
  refine WO.box' rfl rfl rfl rfl rfl H ?_
  intro i1 S hi1 H
  refine WO.box' rfl rfl rfl rfl rfl H ?_
  intro i2 S hi2 H
  refine WO.step (v := (.bool false)) rfl (nz rfl rfl) ?_
  refine WO.nil ?_
  refine WC.seqR ?_
  refine WO.step (v := (.agg [(.int .i64 a0.Time), (.int .i64 a0.Seq), (.int .i64 a0.Rep)])) rfl (nz rfl (stp_load rfl (H.get 1 rfl) rfl)) ?_
  refine WO.step (v := (.agg [(.int .i64 a1.Time), (.int .i64 a1.Seq), (.int .i64 a1.Rep)])) rfl (nz rfl (stp_load rfl (H.get 0 rfl) rfl)) ?_
  refine WO.step (v := (.bool ((a0.Time == a1.Time) && ((a0.Seq == a1.Seq) && ((a0.Rep == a1.Rep) && true))))) rfl (nz rfl (stp_eq rfl rfl rfl rfl rfl)) ?_
  refine WO.step (v := (.bool ((a0.Time == a1.Time) && ((a0.Seq == a1.Seq) && ((a0.Rep == a1.Rep) && true))))) rfl (nz rfl rfl) ?_
  refine WO.nil ?_
  refine WC.ret ?_
  obtain rfl := Option.some.inj h
  refine KB.ret (vs := [(.bool ((a0.Time == a1.Time) && ((a0.Seq == a1.Seq) && ((a0.Rep == a1.Rep) && true))))]) (res_tmp rfl res_nil) (fl_cons' rfl rfl) ?_
  exact rfl
-- 53_54 slices.EqualFunc[prefect/api.Vector,prefect/api.Vector,prefect/api.CSN,prefect/api.CSN]
def F53_54_L0 (k : Nat) (a41 : Sl Api_CSN) (a42 : Sl Api_CSN) (a43 : Int) : Nat → Int → Option (Out Bool Int)
  | 0, _ => none
  | n + 1, x44 =>
    if decide (x44 < a43) then
    Option.bind (Sl.at? a42 x44) fun y53 =>
    Option.bind (Sl.at? a41 x44) fun y55 =>
    Option.bind (F54 k y53 y55) fun y57 =>
    if !y57 then
    some (Out.ret false)
    else
    F53_54_L0 k a41 a42 a43 n (ad .i64 x44 1)
    else
    some (Out.brk x44)
/-- slices.EqualFunc[prefect/api.Vector,prefect/api.Vector,prefect/api.CSN,prefect/api.CSN] -/
def F53_54 (k : Nat) (a0 : Sl Api_CSN) (a1 : Sl Api_CSN) : Option Bool :=
  if (Sl.len a0) != (Sl.len a1) then
  some false
  else
  Option.bind (F53_54_L0 k a1 a0 (Sl.len a0) k 0) fun y61 =>
  match y61 with
  | .ret y61r => some y61r
  | .brk y61b =>
  some true
theorem l53_54_L0 {k : Nat} {a41 : Sl Api_CSN} {a42 : Sl Api_CSN} {a43 : Int} {S0 : List SObj} {R : List Nat} {K : KX}  {o : Out Bool Int}
    (hret : ∀ r : Bool, o = .ret r → ∀ {σ' : Nat → PV} {S' : List SObj}, Known [(6, (.bool r))] σ' → Hp S0 R S' [] [] [] → K .ret σ' S' false)
    (hbrk : ∀ y : Int, o = .brk y → ∀ {σ' : Nat → PV} {S' : List SObj}, Known [(17, (.int .i64 y))] σ' → Hp S0 R S' [] [] [] → K (.exit 0) σ' S' false) :
    ∀ {n : Nat} {x44 : Int}, F53_54_L0 k a41 a42 a43 n x44 = some o → ∀ {σ : Nat → PV} {S : List SObj}, Known [(1, (encSl e_Api_CSN a41)), (2, (.fn (.func 54) [] [])), (15, (encSl e_Api_CSN a42)), (16, (.int .i64 a43)), (17, (.int .i64 x44))] σ → Hp S0 R S [] [] [] → WC env ⟨32, S0.length⟩ (.loop pc53L0) σ S false K := by
  intro n
  induction n with
  | zero => intro _ h; cases h
  | succ n ih =>
    intro x44 h σ S  hk H
    rw [F53_54_L0] at h
    refine WC.loop ?_
    refine WC.of_known hk ?_
    refine WC.seqR ?_
    refine WO.step (v := (.bool (decide (x44 < a43)))) rfl (nz rfl rfl) ?_
    refine WO.nil ?_
    refine WC.seq ?_
    rcases iteS h with ⟨hc60, h⟩ | ⟨hc60, h⟩
    · refine WC.condT rfl hc60 ?_
      refine WC.skip ?_
      refine KX.seq_n ?_
      refine WC.seq ?_
      refine WC.block ?_
      refine WC.seqR ?_
      refine WO.step (v := (.int .i64 x44)) rfl (nz rfl rfl) ?_
      obtain ⟨y53, hy53, h⟩ := bindS h
      refine WO.step (v := (.iptr [(.int .i64 y53.Time), (.int .i64 y53.Seq), (.int .i64 y53.Rep)] 0)) rfl (nz rfl (stp_idxAddr rfl (isSl_enc _ _) rfl rfl rfl hy53 (e_Api_CSN_cells _) rfl)) ?_
      refine WO.step (v := (.agg [(.int .i64 y53.Time), (.int .i64 y53.Seq), (.int .i64 y53.Rep)])) rfl (nz rfl rfl) ?_
      refine WO.alloc' (ti := ty50) rfl rfl rfl rfl H ?_
      intro i54 S hi54 H
      refine WO.step (v := (.int .i64 x44)) rfl (nz rfl rfl) ?_
      refine WO.store 0 rfl rfl H rfl rfl rfl rfl rfl rfl rfl (Nat.le_of_ble_eq_true rfl) rfl (own_e hi54) ?_
      intro S H
      replace H : Hp S0 R _ [(i54, .cells [(.int .i64 y53.Time), (.int .i64 y53.Seq), (.int .i64 y53.Rep)])] [] [] := H
      refine WO.nil ?_
      refine WC.seqR ?_
      refine WO.step (v := (encSl e_Api_CSN a41)) rfl (nz rfl rfl) ?_
      refine WO.step (v := (.int .i64 x44)) rfl (nz rfl rfl) ?_
      obtain ⟨y55, hy55, h⟩ := bindS h
      refine WO.step (v := (.iptr [(.int .i64 y55.Time), (.int .i64 y55.Seq), (.int .i64 y55.Rep)] 0)) rfl (nz rfl (stp_idxAddr rfl (isSl_enc _ _) rfl rfl rfl hy55 (e_Api_CSN_cells _) rfl)) ?_
      refine WO.step (v := (.agg [(.int .i64 y55.Time), (.int .i64 y55.Seq), (.int .i64 y55.Rep)])) rfl (nz rfl rfl) ?_
      refine WO.alloc' (ti := ty50) rfl rfl rfl rfl H ?_
      intro i56 S hi56 H
      refine WO.store 0 rfl rfl H rfl rfl rfl rfl rfl rfl rfl (Nat.le_of_ble_eq_true rfl) rfl (own_e hi56) ?_
      intro S H
      replace H : Hp S0 R _ [(i56, .cells [(.int .i64 y55.Time), (.int .i64 y55.Seq), (.int .i64 y55.Rep)]), (i54, .cells [(.int .i64 y53.Time), (.int .i64 y53.Seq), (.int .i64 y53.Rep)])] [] [] := H
      refine WO.nil ?_
      refine WC.seqR ?_
      refine WO.step (v := (.fn (.func 54) [] [])) rfl (nz rfl rfl) ?_
      refine WO.step (v := (.agg [(.int .i64 y53.Time), (.int .i64 y53.Seq), (.int .i64 y53.Rep)])) rfl (nz rfl (stp_load rfl (H.get 1 rfl) rfl)) ?_
      refine WO.step (v := (.agg [(.int .i64 y55.Time), (.int .i64 y55.Seq), (.int .i64 y55.Rep)])) rfl (nz rfl (stp_load rfl (H.get 0 rfl) rfl)) ?_
      obtain ⟨y57, hy57, h⟩ := bindS h
      refine WO.step (v := (.bool y57)) rfl (nz rfl (stp_call (vs := [(.agg [(.int .i64 y53.Time), (.int .i64 y53.Seq), (.int .i64 y53.Rep)]), (.agg [(.int .i64 y55.Time), (.int .i64 y55.Seq), (.int .i64 y55.Rep)])]) rfl rfl (s54 _ hy57 rfl _))) ?_
      refine WO.step (v := (.bool (!y57))) rfl (nz rfl rfl) ?_
      refine WO.nil ?_
      rcases iteS h with ⟨hc59, h⟩ | ⟨hc59, h⟩
      · refine WC.condT rfl hc59 ?_
        refine WC.seqR ?_
        refine WO.step (v := (.bool false)) rfl (nz rfl rfl) ?_
        refine WO.nil ?_
        refine WC.ret ?_
        refine KX.block_r ?_
        refine KX.seq_r ?_
        refine KX.seq_r ?_
        obtain rfl := Option.some.inj h
        exact hret _ rfl (known_cons rfl known_nil) (H.sub (.cons _ (.cons _ .slnil)) .slnil .slnil)
      · refine WC.condF rfl hc59 ?_
        refine WC.skip ?_
        refine KX.block_n ?_
        refine KX.seq_n ?_
        refine WC.region ?_
        refine WO.step (v := (.int .i64 (ad .i64 x44 1))) rfl (nz rfl rfl) ?_
        refine WO.step (v := (.int .i64 (ad .i64 x44 1))) rfl (nz rfl rfl) ?_
        refine WO.nil ?_
        refine KX.seq_n ?_
        exact ih h  (known_cons rfl (known_cons rfl (known_cons rfl (known_cons rfl (known_cons rfl known_nil))))) (H.sub (.cons _ (.cons _ .slnil)) .slnil .slnil)
    · refine WC.condF rfl hc60 ?_
      refine WC.exit ?_
      refine KX.seq_x ?_
      refine KX.seq_x ?_
      obtain rfl := Option.some.inj h
      exact hbrk _ rfl  (known_cons rfl known_nil) (H.sub .slnil .slnil .slnil)
theorem s53_54 : ∀ k : Nat, ∀ {a0 : Sl Api_CSN} {a1 : Sl Api_CSN} {r : Bool}, F53_54 k a0 a1 = some r → ∀ {vs : List PV}, vs.map PV.strip = [(encSl e_Api_CSN a0), (encSl e_Api_CSN a1), (.fn (.func 54) [] [])] → ∀ S : List SObj, evw env 53 vs S = some ((.bool r), S, false) := by
  intro k a0 a1 r h vs ha S
  unfold F53_54 at h
  refine evw_pureW (pf := fn53) rfl rfl ha (Nat.le_of_ble_eq_true rfl) (by simp [PV.clean, cleanL, clean_encSl clean_Api_CSN]) rfl ?_
  refine WB.of (pf := fn53) rfl ?_
  have H := Hp.start []
  refine WC.seqR ?_
  refine WO.step (v := (.bool false)) rfl (nz rfl rfl) ?_
  refine WO.nil ?_
  refine WC.seq ?_
  refine WC.seqR ?_
  refine WO.step (v := (encSl e_Api_CSN a0)) rfl (nz rfl rfl) ?_
  refine WO.step (v := (.int .i64 (Sl.len a0))) rfl (nz rfl (stp_len rfl (isSl_enc _ _) rfl)) ?_
  refine WO.step (v := (encSl e_Api_CSN a1)) rfl (nz rfl rfl) ?_
  refine WO.step (v := (.int .i64 (Sl.len a1))) rfl (nz rfl (stp_len rfl (isSl_enc _ _) rfl)) ?_
  refine WO.step (v := (.bool ((Sl.len a0) != (Sl.len a1)))) rfl (nz rfl rfl) ?_
  refine WO.nil ?_
  rcases iteS h with ⟨hc62, h⟩ | ⟨hc62, h⟩
  · refine WC.condT rfl hc62 ?_
    refine WC.seqR ?_
    refine WO.step (v := (.bool false)) rfl (nz rfl rfl) ?_
    refine WO.nil ?_
    refine WC.ret ?_
    refine KX.seq_r ?_
    obtain rfl := Option.some.inj h
    refine KB.ret (vs := [(.bool false)]) (res_tmp rfl res_nil) (fl_cons' rfl rfl) ?_
    exact rfl
  · refine WC.condF rfl hc62 ?_
    refine WC.skip ?_
    refine KX.seq_n ?_
    refine WC.seq ?_
    refine WC.seqR ?_
    refine WO.step (v := (encSl e_Api_CSN a0)) rfl (nz rfl rfl) ?_
    refine WO.step (v := (.int .i64 (Sl.len a0))) rfl (nz rfl (stp_len rfl (isSl_enc _ _) rfl)) ?_
    refine WO.step (v := (.int .i64 0)) rfl (nz rfl rfl) ?_
    refine WO.nil ?_
    obtain ⟨y61, hy61, hOy61⟩ := bindS h
    refine WC.block ?_
    refine l53_54_L0 ?_ ?_ hy61  (known_cons rfl (known_cons rfl (known_cons rfl (known_cons rfl (known_cons rfl known_nil))))) (H.sub .slnil .slnil .slnil)
    · intro y61r he σ S  hk H; subst he; replace h := hOy61; dsimp only at h
      refine KX.of_known hk ?_
      refine KX.block_r ?_
      refine KX.seq_r ?_
      obtain rfl := Option.some.inj h
      refine KB.ret (vs := [(.bool y61r)]) (res_tmp rfl res_nil) (fl_cons' rfl rfl) ?_
      exact rfl
    · intro y61b he σ S  hk H; subst he; replace h := hOy61; dsimp only at h
      refine KX.of_known hk ?_
      refine KX.block_x ?_
      refine KX.seq_n ?_
      refine WC.seqR ?_
      refine WO.step (v := (.bool true)) rfl (nz rfl rfl) ?_
      refine WO.nil ?_
      refine WC.ret ?_
      obtain rfl := Option.some.inj h
      refine KB.ret (vs := [(.bool true)]) (res_tmp rfl res_nil) (fl_cons' rfl rfl) ?_
      exact rfl
-- 36 prefect/vector.Same
/-- prefect/vector.Same -/
def F36 (k : Nat) (a0 : Sl Api_CSN) (a1 : Sl Api_CSN) : Option Bool :=
  Option.bind (F47 k a0) fun y1 =>
  Option.bind (F47 k a1) fun y2 =>
  Option.bind (F53_54 k y1 y2) fun y3 =>
  some y3
theorem s36 : ∀ k : Nat, ∀ {a0 : Sl Api_CSN} {a1 : Sl Api_CSN} {r : Bool}, F36 k a0 a1 = some r → ∀ {vs : List PV}, vs.map PV.strip = [(encSl e_Api_CSN a0), (encSl e_Api_CSN a1)] → ∀ S : List SObj, evw env 36 vs S = some ((.bool r), S, false) := by
  intro k a0 a1 r h vs ha S
  unfold F36 at h
  refine evw_pureW (pf := fn36) rfl rfl ha (Nat.le_of_ble_eq_true rfl) (by simp [PV.clean, cleanL, clean_encSl clean_Api_CSN]) rfl ?_
  refine WB.of (pf := fn36) rfl ?_
  have H := Hp.start []
  refine WC.seqR ?_
  refine WO.step (v := (.bool false)) rfl (nz rfl rfl) ?_
  refine WO.nil ?_
  refine WC.seqR ?_
  refine WO.step (v := (encSl e_Api_CSN a0)) rfl (nz rfl rfl) ?_
  obtain ⟨y1, hy1, h⟩ := bindS h
  refine WO.step (v := (encSl e_Api_CSN y1)) rfl (nz (fz_tmp' (isSl_enc _ _).frz rfl) (stp_call (vs := [(encSl e_Api_CSN a0)]) rfl rfl (s47 _ hy1 (by simp only [strip_enc, List.map_cons, List.map_nil, tupled]) _))) ?_
  refine WO.step (v := (encSl e_Api_CSN a1)) rfl (nz rfl rfl) ?_
  obtain ⟨y2, hy2, h⟩ := bindS h
  refine WO.step (v := (encSl e_Api_CSN y2)) rfl (nz (fz_tmp' (isSl_enc _ _).frz rfl) (stp_call (vs := [(encSl e_Api_CSN a1)]) rfl rfl (s47 _ hy2 (by simp only [strip_enc, List.map_cons, List.map_nil, tupled]) _))) ?_
  obtain ⟨y3, hy3, h⟩ := bindS h
  refine WO.step (v := (.bool y3)) rfl (nz (fz_tmp' (isSl_enc _ _).frz (fz_tmp' (isSl_enc _ _).frz (fz_oth' (fun _ h => by cases h) rfl))) (stp_call (vs := [(encSl e_Api_CSN y1), (encSl e_Api_CSN y2), (.fn (.func 54) [] [])]) rfl rfl (s53_54 _ hy3 (by simp only [strip_enc, st_fn, List.map_cons, List.map_nil, tupled]) _))) ?_
  refine WO.step (v := (.bool y3)) rfl (nz rfl rfl) ?_
  refine WO.nil ?_
  refine WC.ret ?_
  obtain rfl := Option.some.inj h
  refine KB.ret (vs := [(.bool y3)]) (res_tmp rfl res_nil) (fl_cons' rfl rfl) ?_
  exact rfl
-- 28 prefect/vector.Meet
def F28_L0 (k : Nat) (a91 : Sl Api_CSN) (a92 : Sl Api_CSN) (a95 : Int) : Nat → (Sl Api_CSN) → Int → Option ((Sl Api_CSN) × Int)
  | 0, _, _ => none
  | n + 1, x93, x96 =>
    if decide (x96 < a95) then
    Option.bind (Sl.at? a91 x96) fun y112 =>
    Option.bind (Sl.at? a92 x96) fun y114 =>
    Option.bind (F50 k y114 y112) fun y115 =>
    Option.bind (if decide (y115 < 0) then
    Option.bind (Sl.at? a92 x96) fun y121 =>
    some y121
    else
    some y112) fun y120 =>
    Option.bind (Sl.app? 24 x93 (Sl.l (some [y120]))) fun z124 =>
    F28_L0 k a91 a92 a95 n z124 (ad .i64 x96 1)
    else
    some (x93, x96)
/-- prefect/vector.Meet -/
def F28 (k : Nat) (a0 : Sl Api_CSN) (a1 : Sl Api_CSN) : Option (Sl Api_CSN) :=
  Option.bind (F47 k a0) fun y1 =>
  Option.bind (F47 k a1) fun y2 =>
  Option.bind (F28_L0 k y1 y2 (imin (Sl.len y1) (Sl.len y2)) k none 0) fun y128 =>
  some y128.1
theorem l28_L0 {k : Nat} {a91 : Sl Api_CSN} {a92 : Sl Api_CSN} {a95 : Int} {S0 : List SObj} {R : List Nat} {K : KX}  {o : ((Sl Api_CSN) × Int)}
    (hbrk : ∀ {σ' : Nat → PV} {S' : List SObj}, ∀ (v127 : PV) (_ : IsSl e_Api_CSN o.1 v127), Known [(5, v127), (17, (.int .i64 o.2))] σ' → Hp S0 R S' [] [(v127, 3)] [] → K (.exit 0) σ' S' false) :
    ∀ {n : Nat} {x93 : Sl Api_CSN} {x96 : Int}, F28_L0 k a91 a92 a95 n x93 x96 = some o → ∀ {σ : Nat → PV} {S : List SObj}, ∀ (v94 : PV) (_ : IsSl e_Api_CSN x93 v94), Known [(0, (encSl e_Api_CSN a91)), (1, (encSl e_Api_CSN a92)), (5, v94), (16, (.int .i64 a95)), (17, (.int .i64 x96))] σ → Hp S0 R S [] [(v94, 3)] [] → WC env ⟨41, S0.length⟩ (.loop pc28L0) σ S false K := by
  intro n
  induction n with
  | zero => intro _ _ h; cases h
  | succ n ih =>
    intro x93 x96 h σ S v94 hv94 hk H
    rw [F28_L0] at h
    refine WC.loop ?_
    refine WC.of_known hk ?_
    refine WC.seqR ?_
    refine WO.step (v := (.bool (decide (x96 < a95)))) rfl (nz rfl rfl) ?_
    refine WO.nil ?_
    refine WC.seq ?_
    rcases iteS h with ⟨hc126, h⟩ | ⟨hc126, h⟩
    · refine WC.condT rfl hc126 ?_
      refine WC.skip ?_
      refine KX.seq_n ?_
      refine WC.seq ?_
      refine WC.block ?_
      refine WC.seqR ?_
      refine WO.step (v := (.int .i64 x96)) rfl (nz rfl rfl) ?_
      refine WO.step (v := (.int .i64 x96)) rfl (nz rfl rfl) ?_
      refine WO.nil ?_
      refine WC.seqR ?_
      refine WO.step (v := (encSl e_Api_CSN a91)) rfl (nz rfl rfl) ?_
      refine WO.step (v := (.int .i64 x96)) rfl (nz rfl rfl) ?_
      obtain ⟨y112, hy112, h⟩ := bindS h
      refine WO.step (v := (.iptr [(.int .i64 y112.Time), (.int .i64 y112.Seq), (.int .i64 y112.Rep)] 0)) rfl (nz rfl (stp_idxAddr rfl (isSl_enc _ _) rfl rfl rfl hy112 (e_Api_CSN_cells _) rfl)) ?_
      refine WO.step (v := (.agg [(.int .i64 y112.Time), (.int .i64 y112.Seq), (.int .i64 y112.Rep)])) rfl (nz rfl rfl) ?_
      refine WO.alloc' (ti := ty50) rfl rfl rfl rfl H ?_
      intro i113 S hi113 H
      refine WO.store 0 rfl rfl H rfl rfl rfl rfl rfl rfl rfl (Nat.le_of_ble_eq_true rfl) rfl (own_e hi113) ?_
      intro S H
      replace H : Hp S0 R _ [(i113, .cells [(.int .i64 y112.Time), (.int .i64 y112.Seq), (.int .i64 y112.Rep)])] [(v94, 3)] [] := H
      refine WO.nil ?_
      refine WC.seq ?_
      refine WC.seq ?_
      refine WC.draw ?_
      refine WH.step (v := (encSl e_Api_CSN a92)) rfl (nz rfl rfl) rfl rfl ?_
      refine WH.step (v := (.int .i64 x96)) rfl (nz rfl rfl) rfl rfl ?_
      obtain ⟨y114, hy114, h⟩ := bindS h
      refine WH.step (v := (.iptr [(.int .i64 y114.Time), (.int .i64 y114.Seq), (.int .i64 y114.Rep)] 0)) rfl (nz rfl (stp_idxAddr rfl (isSl_enc _ _) rfl rfl rfl hy114 (e_Api_CSN_cells _) rfl)) rfl rfl ?_
      refine WH.step (v := (.agg [(.int .i64 y114.Time), (.int .i64 y114.Seq), (.int .i64 y114.Rep)])) rfl (nz rfl rfl) rfl rfl ?_
      refine WH.step (v := (.agg [(.int .i64 y112.Time), (.int .i64 y112.Seq), (.int .i64 y112.Rep)])) rfl (nz rfl (stp_load rfl (H.get 0 rfl) rfl)) rfl rfl ?_
      refine WH.nil ?_
      obtain ⟨y115, hy115, h⟩ := bindS h
      refine WO.step (v := (.int .i64 y115)) rfl (nz rfl (stp_call (vs := [(.agg [(.int .i64 y114.Time), (.int .i64 y114.Seq), (.int .i64 y114.Rep)]), (.agg [(.int .i64 y112.Time), (.int .i64 y112.Seq), (.int .i64 y112.Rep)])]) rfl rfl (s50 _ hy115 rfl _))) ?_
      refine WO.step (v := (.bool (decide (y115 < 0)))) rfl (nz rfl rfl) ?_
      refine WO.nil ?_
      refine KX.seq_n ?_
      obtain ⟨y120, hy120, hOy120⟩ := bindS h
      refine WC.join (fun σ' S' e' => Known ([(0, (encSl e_Api_CSN a91)), (1, (encSl e_Api_CSN a92)), (5, v94), (7, (.ptr i113 0)), (16, (.int .i64 a95)), (17, (.int .i64 x96))]) σ' ∧ Hp S0 R S' [(i113, .cells [(.int .i64 y120.Time), (.int .i64 y120.Seq), (.int .i64 y120.Rep)])] [(v94, 3)] [] ∧ e' = false) ?_ ?_
      · replace h := hy120
        rcases iteS h with ⟨hc122, h⟩ | ⟨hc122, h⟩
        · refine WC.condT rfl hc122 ?_
          refine WC.region ?_
          refine WO.step (v := (encSl e_Api_CSN a92)) rfl (nz rfl rfl) ?_
          refine WO.step (v := (.int .i64 x96)) rfl (nz rfl rfl) ?_
          obtain ⟨y121, hy121, h⟩ := bindS h
          refine WO.step (v := (.iptr [(.int .i64 y121.Time), (.int .i64 y121.Seq), (.int .i64 y121.Rep)] 0)) rfl (nz rfl (stp_idxAddr rfl (isSl_enc _ _) rfl rfl rfl hy121 (e_Api_CSN_cells _) rfl)) ?_
          refine WO.step (v := (.agg [(.int .i64 y121.Time), (.int .i64 y121.Seq), (.int .i64 y121.Rep)])) rfl (nz rfl rfl) ?_
          refine WO.store 0 rfl rfl H rfl rfl rfl rfl rfl rfl rfl (Nat.le_of_ble_eq_true rfl) rfl (own_e hi113) ?_
          intro S H
          replace H : Hp S0 R _ [(i113, .cells [(.int .i64 y121.Time), (.int .i64 y121.Seq), (.int .i64 y121.Rep)])] [(v94, 3)] [] := H
          refine WO.nil ?_
          refine KX.seq_n ?_
          obtain rfl := Option.some.inj h
          exact ⟨(known_cons rfl (known_cons rfl (known_cons rfl (known_cons rfl (known_cons rfl (known_cons rfl known_nil)))))), (H.sub (.cons_cons _ .slnil) (.cons_cons _ .slnil) .slnil), rfl⟩
        · refine WC.condF rfl hc122 ?_
          refine WC.skip ?_
          refine KX.seq_n ?_
          obtain rfl := Option.some.inj h
          exact ⟨(known_cons rfl (known_cons rfl (known_cons rfl (known_cons rfl (known_cons rfl (known_cons rfl known_nil)))))), (H.sub (.cons_cons _ .slnil) (.cons_cons _ .slnil) .slnil), rfl⟩
      · rintro σ S e ⟨hk, H, rfl⟩
        replace h := hOy120
        refine KX.of_known hk ?_
        refine KX.seq_n ?_
        refine WC.region ?_
        refine WO.step (v := v94) rfl (nz rfl rfl) ?_
        refine WO.step (v := (.agg [(.int .i64 y120.Time), (.int .i64 y120.Seq), (.int .i64 y120.Rep)])) rfl (nz rfl (stp_load rfl (H.get 0 rfl) rfl)) ?_
        refine WO.step rfl (nz rfl (stp_buildSlice (ys := [y120]) (f := e_Api_CSN) (parts := [(0, (.agg [(.int .i64 y120.Time), (.int .i64 y120.Seq), (.int .i64 y120.Rep)]))]) rfl rfl rfl rfl rfl rfl (fc ⟨rfl, rfl⟩ (fun p hp => nomatch hp)) rfl)) ?_
        have hv123 : IsSl e_Api_CSN (some [y120]) _ := ⟨.full, rfl⟩
        obtain ⟨z124, hz124, h⟩ := bindS h
        refine WO.ex rfl (nzx (fz_tmp' hv123.frz rfl) (stp_app (f := e_Api_CSN) (ei := ty50) H 0 rfl rfl hv94 rfl hv123 rfl rfl rfl rfl (fun a => (e_Api_CSN_one a).2.1) hz124)) ?_
        rintro v125 S ⟨hv125, H⟩
        replace H : Hp S0 R _ [(i113, .cells [(.int .i64 y120.Time), (.int .i64 y120.Seq), (.int .i64 y120.Rep)])] [(v125, 3)] [] := H
        refine WO.step (v := v125) rfl (nz rfl rfl) ?_
        refine WO.nil ?_
        refine KX.block_n ?_
        refine KX.seq_n ?_
        refine WC.region ?_
        refine WO.step (v := (.int .i64 (ad .i64 x96 1))) rfl (nz rfl rfl) ?_
        refine WO.step (v := (.int .i64 (ad .i64 x96 1))) rfl (nz rfl rfl) ?_
        refine WO.nil ?_
        refine KX.seq_n ?_
        exact ih h v125 (hv125) (known_cons rfl (known_cons rfl (known_cons rfl (known_cons rfl (known_cons rfl known_nil))))) (H.sub (.cons _ .slnil) (.cons_cons _ .slnil) .slnil)
    · refine WC.condF rfl hc126 ?_
      refine WC.exit ?_
      refine KX.seq_x ?_
      refine KX.seq_x ?_
      obtain rfl := Option.some.inj h
      exact hbrk v94 (hv94) (known_cons rfl (known_cons rfl known_nil)) (H.sub .slnil (.cons_cons _ .slnil) .slnil)
theorem s28 : ∀ k : Nat, ∀ {a0 : Sl Api_CSN} {a1 : Sl Api_CSN} {r : (Sl Api_CSN)}, F28 k a0 a1 = some r → ∀ {vs : List PV}, vs.map PV.strip = [(encSl e_Api_CSN a0), (encSl e_Api_CSN a1)] → ∀ S : List SObj, evw env 28 vs S = some ((encSl e_Api_CSN r), S, false) := by
  intro k a0 a1 r h vs ha S
  unfold F28 at h
  refine evw_pureW (pf := fn28) rfl rfl ha (Nat.le_of_ble_eq_true rfl) (by simp [PV.clean, cleanL, clean_encSl clean_Api_CSN]) (by simp [PV.clean, cleanL, clean_encSl clean_Api_CSN]) ?_
  refine WB.of (pf := fn28) rfl ?_
  have H := Hp.start []
  refine WC.seqR ?_
  refine WO.step (v := .nils) rfl (nz rfl rfl) ?_
  refine WO.nil ?_
  refine WC.seqR ?_
  refine WO.step (v := (encSl e_Api_CSN a0)) rfl (nz rfl rfl) ?_
  obtain ⟨y1, hy1, h⟩ := bindS h
  refine WO.step (v := (encSl e_Api_CSN y1)) rfl (nz (fz_tmp' (isSl_enc _ _).frz rfl) (stp_call (vs := [(encSl e_Api_CSN a0)]) rfl rfl (s47 _ hy1 (by simp only [strip_enc, List.map_cons, List.map_nil, tupled]) _))) ?_
  refine WO.step (v := (encSl e_Api_CSN a1)) rfl (nz rfl rfl) ?_
  obtain ⟨y2, hy2, h⟩ := bindS h
  refine WO.step (v := (encSl e_Api_CSN y2)) rfl (nz (fz_tmp' (isSl_enc _ _).frz rfl) (stp_call (vs := [(encSl e_Api_CSN a1)]) rfl rfl (s47 _ hy2 (by simp only [strip_enc, List.map_cons, List.map_nil, tupled]) _))) ?_
  refine WO.step (v := (encSl e_Api_CSN y1)) rfl (nz rfl rfl) ?_
  refine WO.step (v := (encSl e_Api_CSN y2)) rfl (nz rfl rfl) ?_
  refine WO.nil ?_
  refine WC.seqR ?_
  refine WO.step (v := .nils) rfl (nz rfl rfl) ?_
  refine WO.nil ?_
  refine WC.seq ?_
  refine WC.seqR ?_
  refine WO.step (v := (encSl e_Api_CSN y1)) rfl (nz rfl rfl) ?_
  refine WO.step (v := (.int .i64 (Sl.len y1))) rfl (nz rfl (stp_len rfl (isSl_enc _ _) rfl)) ?_
  refine WO.step (v := (encSl e_Api_CSN y2)) rfl (nz rfl rfl) ?_
  refine WO.step (v := (.int .i64 (Sl.len y2))) rfl (nz rfl (stp_len rfl (isSl_enc _ _) rfl)) ?_
  refine WO.step (v := (.int .i64 (imin (Sl.len y1) (Sl.len y2)))) rfl (nz rfl rfl) ?_
  refine WO.step (v := (.int .i64 0)) rfl (nz rfl rfl) ?_
  refine WO.nil ?_
  obtain ⟨y128, hy128, hOy128⟩ := bindS h
  refine WC.block ?_
  have H := H.addNil 3
  refine l28_L0 ?_ hy128 .nils ((isSl_nil _)) (known_cons rfl (known_cons rfl (known_cons rfl (known_cons rfl (known_cons rfl known_nil))))) (H.sub .slnil (.cons_cons _ .slnil) .slnil)
  · intro σ S v129 hv129 hk H; replace h := hOy128
    refine KX.of_known hk ?_
    refine KX.block_x ?_
    refine KX.seq_n ?_
    refine WC.seqR ?_
    refine WO.step (v := v129) rfl (nz rfl rfl) ?_
    refine WO.step (v := v129) rfl (nz rfl rfl) ?_
    refine WO.nil ?_
    refine WC.ret ?_
    obtain rfl := Option.some.inj h
    refine KB.ret (vs := [v129]) (res_tmp rfl res_nil) (fl_cons' hv129.frz rfl) ?_
    exact (by simp only [st_tup, List.map_cons, List.map_nil, tupled, hv129.strip])
-- 18 prefect/prefectlaw11.known
/-- prefect/prefectlaw11.known -/
def F18 (k : Nat) : Option Bool :=
  Option.bind (F20 k 2) fun y1 =>
  Option.bind (F24 k y1 (Api_CSN.mk 5 0 1)) fun y2 =>
  Option.bind (if ((Sl.len y1) == 2) && ((Sl.len y2) == 2) then
  Option.bind (Sl.at? y2 1) fun y9 =>
  some (y9.Time == 5)
  else
  some false) fun y8 =>
  Option.bind (if y8 then
  Option.bind (Sl.at? y1 1) fun y16 =>
  some (y16.Time == 0)
  else
  some false) fun y15 =>
  Option.bind (if y15 then
  Option.bind (F30 k y1 y2) fun y23 =>
  some y23
  else
  some false) fun y22 =>
  Option.bind (if y22 then
  Option.bind (F30 k y2 y1) fun y30 =>
  some (!y30)
  else
  some false) fun y29 =>
  Option.bind (if y29 then
  Option.bind (F32 k y2 (Api_CSN.mk 5 0 1)) fun y37 =>
  some y37
  else
  some false) fun y36 =>
  Option.bind (if y36 then
  Option.bind (F32 k y2 (Api_CSN.mk 6 0 1)) fun y44 =>
  some (!y44)
  else
  some false) fun y43 =>
  Option.bind (if y43 then
  Option.bind (F34 k y2) fun y51 =>
  some ((y51.Time == 0) && ((y51.Seq == 0) && ((y51.Rep == 0) && true)))
  else
  some false) fun y50 =>
  Option.bind (if y50 then
  Option.bind (F22 k y2) fun y58 =>
  some y58
  else
  some false) fun y57 =>
  Option.bind (if y57 then
  Option.bind (F26 k y1 y2) fun y68 =>
  Option.bind (F36 k y68 y2) fun y69 =>
  some y69
  else
  some false) fun y67 =>
  Option.bind (if y67 then
  Option.bind (F28 k y1 y2) fun y79 =>
  Option.bind (F36 k y79 y1) fun y80 =>
  some y80
  else
  some false) fun y78 =>
  some y78
theorem s18 : ∀ k : Nat, ∀ {r : Bool}, F18 k  = some r → ∀ {vs : List PV}, vs.map PV.strip = [] → ∀ S : List SObj, evw env 18 vs S = some ((.bool r), S, false) := by
  intro k  r h vs ha S
  unfold F18 at h
  refine evw_pureW (pf := fn18) rfl rfl ha (Nat.le_of_ble_eq_true rfl) rfl rfl ?_
  refine WB.of (pf := fn18) rfl ?_
  have H := Hp.start []
  refine WC.seqR ?_
  refine WO.step (v := (.bool false)) rfl (nz rfl rfl) ?_
  refine WO.nil ?_
  refine WC.seqR ?_
  obtain ⟨y1, hy1, h⟩ := bindS h
  refine WO.step (v := (encSl e_Api_CSN y1)) rfl (nz rfl (stp_call (vs := [(.int .i64 2)]) rfl rfl (s20 _ hy1 rfl _))) ?_
  refine WO.step (v := (encSl e_Api_CSN y1)) rfl (nz rfl rfl) ?_
  refine WO.nil ?_
  refine WC.seqR ?_
  refine WO.step (v := (encSl e_Api_CSN y1)) rfl (nz rfl rfl) ?_
  refine WO.step (v := (.agg [(.int .i64 5), (.int .i64 0), (.int .i64 1)])) rfl (nz rfl (stp_build (ti := ty50) rfl rfl rfl rfl rfl (fill_cons rfl rfl rfl rfl (Nat.le_of_ble_eq_true rfl) rfl (fill_cons rfl rfl rfl rfl (Nat.le_of_ble_eq_true rfl) rfl rfl)))) ?_
  obtain ⟨y2, hy2, h⟩ := bindS h
  refine WO.step (v := (encSl e_Api_CSN y2)) rfl (nz (fz_tmp' (isSl_enc _ _).frz (fz_tmp' rfl rfl)) (stp_call (vs := [(encSl e_Api_CSN y1), (.agg [(.int .i64 5), (.int .i64 0), (.int .i64 1)])]) rfl rfl (s24 _ hy2 (by simp only [strip_enc, st_agg, List.map_cons, List.map_nil, st1_int, tupled, e_Api_CSN]) _))) ?_
  refine WO.step (v := (encSl e_Api_CSN y2)) rfl (nz rfl rfl) ?_
  refine WO.nil ?_
  refine WC.seqR ?_
  refine WO.step (v := (encSl e_Api_CSN y1)) rfl (nz rfl rfl) ?_
  refine WO.step (v := (.int .i64 (Sl.len y1))) rfl (nz rfl (stp_len rfl (isSl_enc _ _) rfl)) ?_
  refine WO.step (v := (.bool ((Sl.len y1) == 2))) rfl (nz rfl rfl) ?_
  refine WO.step (v := (.bool ((Sl.len y1) == 2))) rfl (nz rfl rfl) ?_
  refine WO.split 4 (fun σ' S' e' => Known ([(1, (encSl e_Api_CSN y1)), (2, (encSl e_Api_CSN y2)), (14, (.bool (((Sl.len y1) == 2) && ((Sl.len y2) == 2))))]) σ' ∧ Hp [] [] S' [] [] [] ∧ e' = false) ?_ ?_
  · cases hc3 : ((Sl.len y1) == 2)
    · skip
      refine WO.by rfl rfl rfl ?_
      refine WO.by rfl rfl rfl ?_
      refine WO.by rfl rfl rfl ?_
      refine WO.step (v := (.bool false)) rfl (nz rfl rfl) ?_
      refine WO.nil ?_
      exact ⟨(known_cons rfl (known_cons rfl (known_cons rfl known_nil))), H, rfl⟩
    · skip
      refine WO.go0 rfl rfl ?_
      refine WO.step (v := (encSl e_Api_CSN y2)) rfl (nz rfl rfl) ?_
      refine WO.go0 rfl rfl ?_
      refine WO.step (v := (.int .i64 (Sl.len y2))) rfl (nz rfl (stp_len rfl (isSl_enc _ _) rfl)) ?_
      refine WO.go0 rfl rfl ?_
      refine WO.step (v := (.bool ((Sl.len y2) == 2))) rfl (nz rfl rfl) ?_
      refine WO.step (v := (.bool ((Sl.len y2) == 2))) rfl (nz rfl rfl) ?_
      refine WO.nil ?_
      exact ⟨(known_cons rfl (known_cons rfl (known_cons rfl known_nil))), H, rfl⟩
  · rintro σ S e ⟨hk, H, rfl⟩
    refine WO.of_known hk ?_
    refine WO.step (v := (.bool (((Sl.len y1) == 2) && ((Sl.len y2) == 2)))) rfl (nz rfl rfl) ?_
    obtain ⟨y8, hy8, hOy8⟩ := bindS h
    refine WO.split 6 (fun σ' S' e' => Known ([(1, (encSl e_Api_CSN y1)), (2, (encSl e_Api_CSN y2)), (21, (.bool y8))]) σ' ∧ Hp [] [] S' [] [] [] ∧ e' = false) ?_ ?_
    · replace h := hy8
      cases hc10 : (((Sl.len y1) == 2) && ((Sl.len y2) == 2))
      · replace h := iteF h hc10
        refine WO.by rfl rfl rfl ?_
        refine WO.by rfl rfl rfl ?_
        refine WO.by rfl rfl rfl ?_
        refine WO.by rfl rfl rfl ?_
        refine WO.by rfl rfl rfl ?_
        refine WO.step (v := (.bool false)) rfl (nz rfl rfl) ?_
        refine WO.nil ?_
        obtain rfl := Option.some.inj h
        exact ⟨(known_cons rfl (known_cons rfl (known_cons rfl known_nil))), (H.sub .slnil .slnil .slnil), rfl⟩
      · replace h := iteT h hc10
        refine WO.go0 rfl rfl ?_
        refine WO.step (v := (encSl e_Api_CSN y2)) rfl (nz rfl rfl) ?_
        refine WO.go0 rfl rfl ?_
        obtain ⟨y9, hy9, h⟩ := bindS h
        refine WO.step (v := (.iptr [(.int .i64 y9.Time), (.int .i64 y9.Seq), (.int .i64 y9.Rep)] 0)) rfl (nz rfl (stp_idxAddr rfl (isSl_enc _ _) rfl rfl rfl hy9 (e_Api_CSN_cells _) rfl)) ?_
        refine WO.go0 rfl rfl ?_
        refine WO.step (v := (.iptr [(.int .i64 y9.Time), (.int .i64 y9.Seq), (.int .i64 y9.Rep)] 0)) rfl (nz rfl rfl) ?_
        refine WO.go0 rfl rfl ?_
        refine WO.step (v := (.int .i64 y9.Time)) rfl (nz rfl rfl) ?_
        refine WO.go0 rfl rfl ?_
        refine WO.step (v := (.bool (y9.Time == 5))) rfl (nz rfl rfl) ?_
        refine WO.step (v := (.bool (y9.Time == 5))) rfl (nz rfl rfl) ?_
        refine WO.nil ?_
        obtain rfl := Option.some.inj h
        exact ⟨(known_cons rfl (known_cons rfl (known_cons rfl known_nil))), (H.sub .slnil .slnil .slnil), rfl⟩
    · rintro σ S e ⟨hk, H, rfl⟩
      replace h := hOy8
      refine WO.of_known hk ?_
      refine WO.step (v := (.bool y8)) rfl (nz rfl rfl) ?_
      obtain ⟨y15, hy15, hOy15⟩ := bindS h
      refine WO.split 6 (fun σ' S' e' => Known ([(1, (encSl e_Api_CSN y1)), (2, (encSl e_Api_CSN y2)), (28, (.bool y15))]) σ' ∧ Hp [] [] S' [] [] [] ∧ e' = false) ?_ ?_
      · replace h := hy15
        cases hc17 : y8
        · replace h := iteF h hc17
          refine WO.by rfl rfl rfl ?_
          refine WO.by rfl rfl rfl ?_
          refine WO.by rfl rfl rfl ?_
          refine WO.by rfl rfl rfl ?_
          refine WO.by rfl rfl rfl ?_
          refine WO.step (v := (.bool false)) rfl (nz rfl rfl) ?_
          refine WO.nil ?_
          obtain rfl := Option.some.inj h
          exact ⟨(known_cons rfl (known_cons rfl (known_cons rfl known_nil))), (H.sub .slnil .slnil .slnil), rfl⟩
        · replace h := iteT h hc17
          refine WO.go0 rfl rfl ?_
          refine WO.step (v := (encSl e_Api_CSN y1)) rfl (nz rfl rfl) ?_
          refine WO.go0 rfl rfl ?_
          obtain ⟨y16, hy16, h⟩ := bindS h
          refine WO.step (v := (.iptr [(.int .i64 y16.Time), (.int .i64 y16.Seq), (.int .i64 y16.Rep)] 0)) rfl (nz rfl (stp_idxAddr rfl (isSl_enc _ _) rfl rfl rfl hy16 (e_Api_CSN_cells _) rfl)) ?_
          refine WO.go0 rfl rfl ?_
          refine WO.step (v := (.iptr [(.int .i64 y16.Time), (.int .i64 y16.Seq), (.int .i64 y16.Rep)] 0)) rfl (nz rfl rfl) ?_
          refine WO.go0 rfl rfl ?_
          refine WO.step (v := (.int .i64 y16.Time)) rfl (nz rfl rfl) ?_
          refine WO.go0 rfl rfl ?_
          refine WO.step (v := (.bool (y16.Time == 0))) rfl (nz rfl rfl) ?_
          refine WO.step (v := (.bool (y16.Time == 0))) rfl (nz rfl rfl) ?_
          refine WO.nil ?_
          obtain rfl := Option.some.inj h
          exact ⟨(known_cons rfl (known_cons rfl (known_cons rfl known_nil))), (H.sub .slnil .slnil .slnil), rfl⟩
      · rintro σ S e ⟨hk, H, rfl⟩
        replace h := hOy15
        refine WO.of_known hk ?_
        refine WO.step (v := (.bool y15)) rfl (nz rfl rfl) ?_
        obtain ⟨y22, hy22, hOy22⟩ := bindS h
        refine WO.split 4 (fun σ' S' e' => Known ([(1, (encSl e_Api_CSN y1)), (2, (encSl e_Api_CSN y2)), (33, (.bool y22))]) σ' ∧ Hp [] [] S' [] [] [] ∧ e' = false) ?_ ?_
        · replace h := hy22
          cases hc24 : y15
          · replace h := iteF h hc24
            refine WO.by rfl rfl rfl ?_
            refine WO.by rfl rfl rfl ?_
            refine WO.by rfl rfl rfl ?_
            refine WO.step (v := (.bool false)) rfl (nz rfl rfl) ?_
            refine WO.nil ?_
            obtain rfl := Option.some.inj h
            exact ⟨(known_cons rfl (known_cons rfl (known_cons rfl known_nil))), (H.sub .slnil .slnil .slnil), rfl⟩
          · replace h := iteT h hc24
            refine WO.go0 rfl rfl ?_
            refine WO.step (v := (encSl e_Api_CSN y1)) rfl (nz rfl rfl) ?_
            refine WO.go0 rfl rfl ?_
            refine WO.step (v := (encSl e_Api_CSN y2)) rfl (nz rfl rfl) ?_
            refine WO.go0 rfl rfl ?_
            obtain ⟨y23, hy23, h⟩ := bindS h
            refine WO.step (v := (.bool y23)) rfl (nz (fz_tmp' (isSl_enc _ _).frz (fz_tmp' (isSl_enc _ _).frz rfl)) (stp_call (vs := [(encSl e_Api_CSN y1), (encSl e_Api_CSN y2)]) rfl rfl (s30 _ hy23 (by simp only [strip_enc, List.map_cons, List.map_nil, tupled]) _))) ?_
            refine WO.step (v := (.bool y23)) rfl (nz rfl rfl) ?_
            refine WO.nil ?_
            obtain rfl := Option.some.inj h
            exact ⟨(known_cons rfl (known_cons rfl (known_cons rfl known_nil))), (H.sub .slnil .slnil .slnil), rfl⟩
        · rintro σ S e ⟨hk, H, rfl⟩
          replace h := hOy22
          refine WO.of_known hk ?_
          refine WO.step (v := (.bool y22)) rfl (nz rfl rfl) ?_
          obtain ⟨y29, hy29, hOy29⟩ := bindS h
          refine WO.split 5 (fun σ' S' e' => Known ([(1, (encSl e_Api_CSN y1)), (2, (encSl e_Api_CSN y2)), (39, (.bool y29))]) σ' ∧ Hp [] [] S' [] [] [] ∧ e' = false) ?_ ?_
          · replace h := hy29
            cases hc31 : y22
            · replace h := iteF h hc31
              refine WO.by rfl rfl rfl ?_
              refine WO.by rfl rfl rfl ?_
              refine WO.by rfl rfl rfl ?_
              refine WO.by rfl rfl rfl ?_
              refine WO.step (v := (.bool false)) rfl (nz rfl rfl) ?_
              refine WO.nil ?_
              obtain rfl := Option.some.inj h
              exact ⟨(known_cons rfl (known_cons rfl (known_cons rfl known_nil))), (H.sub .slnil .slnil .slnil), rfl⟩
            · replace h := iteT h hc31
              refine WO.go0 rfl rfl ?_
              refine WO.step (v := (encSl e_Api_CSN y2)) rfl (nz rfl rfl) ?_
              refine WO.go0 rfl rfl ?_
              refine WO.step (v := (encSl e_Api_CSN y1)) rfl (nz rfl rfl) ?_
              refine WO.go0 rfl rfl ?_
              obtain ⟨y30, hy30, h⟩ := bindS h
              refine WO.step (v := (.bool y30)) rfl (nz (fz_tmp' (isSl_enc _ _).frz (fz_tmp' (isSl_enc _ _).frz rfl)) (stp_call (vs := [(encSl e_Api_CSN y2), (encSl e_Api_CSN y1)]) rfl rfl (s30 _ hy30 (by simp only [strip_enc, List.map_cons, List.map_nil, tupled]) _))) ?_
              refine WO.go0 rfl rfl ?_
              refine WO.step (v := (.bool (!y30))) rfl (nz rfl rfl) ?_
              refine WO.step (v := (.bool (!y30))) rfl (nz rfl rfl) ?_
              refine WO.nil ?_
              obtain rfl := Option.some.inj h
              exact ⟨(known_cons rfl (known_cons rfl (known_cons rfl known_nil))), (H.sub .slnil .slnil .slnil), rfl⟩
          · rintro σ S e ⟨hk, H, rfl⟩
            replace h := hOy29
            refine WO.of_known hk ?_
            refine WO.step (v := (.bool y29)) rfl (nz rfl rfl) ?_
            obtain ⟨y36, hy36, hOy36⟩ := bindS h
            refine WO.split 4 (fun σ' S' e' => Known ([(1, (encSl e_Api_CSN y1)), (2, (encSl e_Api_CSN y2)), (44, (.bool y36))]) σ' ∧ Hp [] [] S' [] [] [] ∧ e' = false) ?_ ?_
            · replace h := hy36
              cases hc38 : y29
              · replace h := iteF h hc38
                refine WO.by rfl rfl rfl ?_
                refine WO.by rfl rfl rfl ?_
                refine WO.by rfl rfl rfl ?_
                refine WO.step (v := (.bool false)) rfl (nz rfl rfl) ?_
                refine WO.nil ?_
                obtain rfl := Option.some.inj h
                exact ⟨(known_cons rfl (known_cons rfl (known_cons rfl known_nil))), (H.sub .slnil .slnil .slnil), rfl⟩
              · replace h := iteT h hc38
                refine WO.go0 rfl rfl ?_
                refine WO.step (v := (encSl e_Api_CSN y2)) rfl (nz rfl rfl) ?_
                refine WO.go0 rfl rfl ?_
                refine WO.step (v := (.agg [(.int .i64 5), (.int .i64 0), (.int .i64 1)])) rfl (nz rfl (stp_build (ti := ty50) rfl rfl rfl rfl rfl (fill_cons rfl rfl rfl rfl (Nat.le_of_ble_eq_true rfl) rfl (fill_cons rfl rfl rfl rfl (Nat.le_of_ble_eq_true rfl) rfl rfl)))) ?_
                refine WO.go0 rfl rfl ?_
                obtain ⟨y37, hy37, h⟩ := bindS h
                refine WO.step (v := (.bool y37)) rfl (nz (fz_tmp' (isSl_enc _ _).frz (fz_tmp' rfl rfl)) (stp_call (vs := [(encSl e_Api_CSN y2), (.agg [(.int .i64 5), (.int .i64 0), (.int .i64 1)])]) rfl rfl (s32 _ hy37 (by simp only [strip_enc, st_agg, List.map_cons, List.map_nil, st1_int, tupled, e_Api_CSN]) _))) ?_
                refine WO.step (v := (.bool y37)) rfl (nz rfl rfl) ?_
                refine WO.nil ?_
                obtain rfl := Option.some.inj h
                exact ⟨(known_cons rfl (known_cons rfl (known_cons rfl known_nil))), (H.sub .slnil .slnil .slnil), rfl⟩
            · rintro σ S e ⟨hk, H, rfl⟩
              replace h := hOy36
              refine WO.of_known hk ?_
              refine WO.step (v := (.bool y36)) rfl (nz rfl rfl) ?_
              obtain ⟨y43, hy43, hOy43⟩ := bindS h
              refine WO.split 5 (fun σ' S' e' => Known ([(1, (encSl e_Api_CSN y1)), (2, (encSl e_Api_CSN y2)), (50, (.bool y43))]) σ' ∧ Hp [] [] S' [] [] [] ∧ e' = false) ?_ ?_
              · replace h := hy43
                cases hc45 : y36
                · replace h := iteF h hc45
                  refine WO.by rfl rfl rfl ?_
                  refine WO.by rfl rfl rfl ?_
                  refine WO.by rfl rfl rfl ?_
                  refine WO.by rfl rfl rfl ?_
                  refine WO.step (v := (.bool false)) rfl (nz rfl rfl) ?_
                  refine WO.nil ?_
                  obtain rfl := Option.some.inj h
                  exact ⟨(known_cons rfl (known_cons rfl (known_cons rfl known_nil))), (H.sub .slnil .slnil .slnil), rfl⟩
                · replace h := iteT h hc45
                  refine WO.go0 rfl rfl ?_
                  refine WO.step (v := (encSl e_Api_CSN y2)) rfl (nz rfl rfl) ?_
                  refine WO.go0 rfl rfl ?_
                  refine WO.step (v := (.agg [(.int .i64 6), (.int .i64 0), (.int .i64 1)])) rfl (nz rfl (stp_build (ti := ty50) rfl rfl rfl rfl rfl (fill_cons rfl rfl rfl rfl (Nat.le_of_ble_eq_true rfl) rfl (fill_cons rfl rfl rfl rfl (Nat.le_of_ble_eq_true rfl) rfl rfl)))) ?_
                  refine WO.go0 rfl rfl ?_
                  obtain ⟨y44, hy44, h⟩ := bindS h
                  refine WO.step (v := (.bool y44)) rfl (nz (fz_tmp' (isSl_enc _ _).frz (fz_tmp' rfl rfl)) (stp_call (vs := [(encSl e_Api_CSN y2), (.agg [(.int .i64 6), (.int .i64 0), (.int .i64 1)])]) rfl rfl (s32 _ hy44 (by simp only [strip_enc, st_agg, List.map_cons, List.map_nil, st1_int, tupled, e_Api_CSN]) _))) ?_
                  refine WO.go0 rfl rfl ?_
                  refine WO.step (v := (.bool (!y44))) rfl (nz rfl rfl) ?_
                  refine WO.step (v := (.bool (!y44))) rfl (nz rfl rfl) ?_
                  refine WO.nil ?_
                  obtain rfl := Option.some.inj h
                  exact ⟨(known_cons rfl (known_cons rfl (known_cons rfl known_nil))), (H.sub .slnil .slnil .slnil), rfl⟩
              · rintro σ S e ⟨hk, H, rfl⟩
                replace h := hOy43
                refine WO.of_known hk ?_
                refine WO.step (v := (.bool y43)) rfl (nz rfl rfl) ?_
                obtain ⟨y50, hy50, hOy50⟩ := bindS h
                refine WO.split 5 (fun σ' S' e' => Known ([(1, (encSl e_Api_CSN y1)), (2, (encSl e_Api_CSN y2)), (56, (.bool y50))]) σ' ∧ Hp [] [] S' [] [] [] ∧ e' = false) ?_ ?_
                · replace h := hy50
                  cases hc52 : y43
                  · replace h := iteF h hc52
                    refine WO.by rfl rfl rfl ?_
                    refine WO.by rfl rfl rfl ?_
                    refine WO.by rfl rfl rfl ?_
                    refine WO.by rfl rfl rfl ?_
                    refine WO.step (v := (.bool false)) rfl (nz rfl rfl) ?_
                    refine WO.nil ?_
                    obtain rfl := Option.some.inj h
                    exact ⟨(known_cons rfl (known_cons rfl (known_cons rfl known_nil))), (H.sub .slnil .slnil .slnil), rfl⟩
                  · replace h := iteT h hc52
                    refine WO.go0 rfl rfl ?_
                    refine WO.step (v := (encSl e_Api_CSN y2)) rfl (nz rfl rfl) ?_
                    refine WO.go0 rfl rfl ?_
                    obtain ⟨y51, hy51, h⟩ := bindS h
                    refine WO.step (v := (.agg [(.int .i64 y51.Time), (.int .i64 y51.Seq), (.int .i64 y51.Rep)])) rfl (nz (fz_tmp' (isSl_enc _ _).frz rfl) (stp_call (vs := [(encSl e_Api_CSN y2)]) rfl rfl (s34 _ hy51 (by simp only [strip_enc, List.map_cons, List.map_nil, tupled]) _))) ?_
                    refine WO.go0 rfl rfl ?_
                    refine WO.step (v := (.agg [(.int .i64 0), (.int .i64 0), (.int .i64 0)])) rfl (nz rfl (stp_build (ti := ty50) rfl rfl rfl rfl rfl rfl)) ?_
                    refine WO.go0 rfl rfl ?_
                    refine WO.step (v := (.bool ((y51.Time == 0) && ((y51.Seq == 0) && ((y51.Rep == 0) && true))))) rfl (nz rfl (stp_eq rfl rfl rfl rfl rfl)) ?_
                    refine WO.step (v := (.bool ((y51.Time == 0) && ((y51.Seq == 0) && ((y51.Rep == 0) && true))))) rfl (nz rfl rfl) ?_
                    refine WO.nil ?_
                    obtain rfl := Option.some.inj h
                    exact ⟨(known_cons rfl (known_cons rfl (known_cons rfl known_nil))), (H.sub .slnil .slnil .slnil), rfl⟩
                · rintro σ S e ⟨hk, H, rfl⟩
                  replace h := hOy50
                  refine WO.of_known hk ?_
                  refine WO.step (v := (.bool y50)) rfl (nz rfl rfl) ?_
                  obtain ⟨y57, hy57, hOy57⟩ := bindS h
                  refine WO.split 3 (fun σ' S' e' => Known ([(1, (encSl e_Api_CSN y1)), (2, (encSl e_Api_CSN y2)), (60, (.bool y57))]) σ' ∧ Hp [] [] S' [] [] [] ∧ e' = false) ?_ ?_
                  · replace h := hy57
                    cases hc59 : y50
                    · replace h := iteF h hc59
                      refine WO.by rfl rfl rfl ?_
                      refine WO.by rfl rfl rfl ?_
                      refine WO.step (v := (.bool false)) rfl (nz rfl rfl) ?_
                      refine WO.nil ?_
                      obtain rfl := Option.some.inj h
                      exact ⟨(known_cons rfl (known_cons rfl (known_cons rfl known_nil))), (H.sub .slnil .slnil .slnil), rfl⟩
                    · replace h := iteT h hc59
                      refine WO.go0 rfl rfl ?_
                      refine WO.step (v := (encSl e_Api_CSN y2)) rfl (nz rfl rfl) ?_
                      refine WO.go0 rfl rfl ?_
                      obtain ⟨y58, hy58, h⟩ := bindS h
                      refine WO.step (v := (.bool y58)) rfl (nz (fz_tmp' (isSl_enc _ _).frz rfl) (stp_call (vs := [(encSl e_Api_CSN y2)]) rfl rfl (s22 _ hy58 (by simp only [strip_enc, List.map_cons, List.map_nil, tupled]) _))) ?_
                      refine WO.step (v := (.bool y58)) rfl (nz rfl rfl) ?_
                      refine WO.nil ?_
                      obtain rfl := Option.some.inj h
                      exact ⟨(known_cons rfl (known_cons rfl (known_cons rfl known_nil))), (H.sub .slnil .slnil .slnil), rfl⟩
                  · rintro σ S e ⟨hk, H, rfl⟩
                    replace h := hOy57
                    refine WO.of_known hk ?_
                    refine WO.step (v := (.bool y57)) rfl (nz rfl rfl) ?_
                    obtain ⟨y67, hy67, hOy67⟩ := bindS h
                    refine WO.split 6 (fun σ' S' e' => Known ([(1, (encSl e_Api_CSN y1)), (2, (encSl e_Api_CSN y2)), (67, (.bool y67))]) σ' ∧ Hp [] [] S' [] [] [] ∧ e' = false) ?_ ?_
                    · replace h := hy67
                      cases hc70 : y57
                      · replace h := iteF h hc70
                        refine WO.by rfl rfl rfl ?_
                        refine WO.by rfl rfl rfl ?_
                        refine WO.by rfl rfl rfl ?_
                        refine WO.by rfl rfl rfl ?_
                        refine WO.by rfl rfl rfl ?_
                        refine WO.step (v := (.bool false)) rfl (nz rfl rfl) ?_
                        refine WO.nil ?_
                        obtain rfl := Option.some.inj h
                        exact ⟨(known_cons rfl (known_cons rfl (known_cons rfl known_nil))), (H.sub .slnil .slnil .slnil), rfl⟩
                      · replace h := iteT h hc70
                        refine WO.go0 rfl rfl ?_
                        refine WO.step (v := (encSl e_Api_CSN y1)) rfl (nz rfl rfl) ?_
                        refine WO.go0 rfl rfl ?_
                        refine WO.step (v := (encSl e_Api_CSN y2)) rfl (nz rfl rfl) ?_
                        refine WO.go0 rfl rfl ?_
                        obtain ⟨y68, hy68, h⟩ := bindS h
                        refine WO.step (v := (encSl e_Api_CSN y68)) rfl (nz (fz_tmp' (isSl_enc _ _).frz (fz_tmp' (isSl_enc _ _).frz rfl)) (stp_call (vs := [(encSl e_Api_CSN y1), (encSl e_Api_CSN y2)]) rfl rfl (s26 _ hy68 (by simp only [strip_enc, List.map_cons, List.map_nil, tupled]) _))) ?_
                        refine WO.go0 rfl rfl ?_
                        refine WO.step (v := (encSl e_Api_CSN y2)) rfl (nz rfl rfl) ?_
                        refine WO.go0 rfl rfl ?_
                        obtain ⟨y69, hy69, h⟩ := bindS h
                        refine WO.step (v := (.bool y69)) rfl (nz (fz_tmp' (isSl_enc _ _).frz (fz_tmp' (isSl_enc _ _).frz rfl)) (stp_call (vs := [(encSl e_Api_CSN y68), (encSl e_Api_CSN y2)]) rfl rfl (s36 _ hy69 (by simp only [strip_enc, List.map_cons, List.map_nil, tupled]) _))) ?_
                        refine WO.step (v := (.bool y69)) rfl (nz rfl rfl) ?_
                        refine WO.nil ?_
                        obtain rfl := Option.some.inj h
                        exact ⟨(known_cons rfl (known_cons rfl (known_cons rfl known_nil))), (H.sub .slnil .slnil .slnil), rfl⟩
                    · rintro σ S e ⟨hk, H, rfl⟩
                      replace h := hOy67
                      refine WO.of_known hk ?_
                      refine WO.step (v := (.bool y67)) rfl (nz rfl rfl) ?_
                      obtain ⟨y78, hy78, hOy78⟩ := bindS h
                      refine WO.split 6 (fun σ' S' e' => Known ([(74, (.bool y78))]) σ' ∧ Hp [] [] S' [] [] [] ∧ e' = false) ?_ ?_
                      · replace h := hy78
                        cases hc81 : y67
                        · replace h := iteF h hc81
                          refine WO.by rfl rfl rfl ?_
                          refine WO.by rfl rfl rfl ?_
                          refine WO.by rfl rfl rfl ?_
                          refine WO.by rfl rfl rfl ?_
                          refine WO.by rfl rfl rfl ?_
                          refine WO.step (v := (.bool false)) rfl (nz rfl rfl) ?_
                          refine WO.nil ?_
                          obtain rfl := Option.some.inj h
                          exact ⟨(known_cons rfl known_nil), (H.sub .slnil .slnil .slnil), rfl⟩
                        · replace h := iteT h hc81
                          refine WO.go0 rfl rfl ?_
                          refine WO.step (v := (encSl e_Api_CSN y1)) rfl (nz rfl rfl) ?_
                          refine WO.go0 rfl rfl ?_
                          refine WO.step (v := (encSl e_Api_CSN y2)) rfl (nz rfl rfl) ?_
                          refine WO.go0 rfl rfl ?_
                          obtain ⟨y79, hy79, h⟩ := bindS h
                          refine WO.step (v := (encSl e_Api_CSN y79)) rfl (nz (fz_tmp' (isSl_enc _ _).frz (fz_tmp' (isSl_enc _ _).frz rfl)) (stp_call (vs := [(encSl e_Api_CSN y1), (encSl e_Api_CSN y2)]) rfl rfl (s28 _ hy79 (by simp only [strip_enc, List.map_cons, List.map_nil, tupled]) _))) ?_
                          refine WO.go0 rfl rfl ?_
                          refine WO.step (v := (encSl e_Api_CSN y1)) rfl (nz rfl rfl) ?_
                          refine WO.go0 rfl rfl ?_
                          obtain ⟨y80, hy80, h⟩ := bindS h
                          refine WO.step (v := (.bool y80)) rfl (nz (fz_tmp' (isSl_enc _ _).frz (fz_tmp' (isSl_enc _ _).frz rfl)) (stp_call (vs := [(encSl e_Api_CSN y79), (encSl e_Api_CSN y1)]) rfl rfl (s36 _ hy80 (by simp only [strip_enc, List.map_cons, List.map_nil, tupled]) _))) ?_
                          refine WO.step (v := (.bool y80)) rfl (nz rfl rfl) ?_
                          refine WO.nil ?_
                          obtain rfl := Option.some.inj h
                          exact ⟨(known_cons rfl known_nil), (H.sub .slnil .slnil .slnil), rfl⟩
                      · rintro σ S e ⟨hk, H, rfl⟩
                        replace h := hOy78
                        refine WO.of_known hk ?_
                        refine WO.step (v := (.bool y78)) rfl (nz rfl rfl) ?_
                        refine WO.nil ?_
                        refine WC.ret ?_
                        obtain rfl := Option.some.inj h
                        refine KB.ret (vs := [(.bool y78)]) (res_tmp rfl res_nil) (fl_cons' rfl rfl) ?_
                        exact rfl
end Go.Proofs.Ythcchjhieolflaa.M
