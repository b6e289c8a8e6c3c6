/- Part of the proof: the runs of functions on the abstract machine. -/
import Derived.Test.YthcchjhieolflaaPam33
import Derived.Test.YthcchjhieolflaaFns
import Derived.Test.YthcchjhieolflaaDVe
import Derived.Test.YthcchjhieolflaaDVc
namespace Go.Proofs.Ythcchjhieolflaa.M
open Go Go.Pam Go.RowKit Go.WideShapes
set_option maxRecDepth 4000
set_option linter.unusedVariables false
set_option linter.unusedSimpArgs false

-- 19 prefect/prefectref10.Equal
def F19_L0 (k : Nat) (a27 : Sl Api_CSN) (a28 : Sl Api_CSN) : Nat → Int → Option (Out Bool Int)
  | 0, _ => none
  | n + 1, x29 =>
    if decide (x29 < (Sl.len a27)) then
    Option.bind (Sl.at? a27 x29) fun y35 =>
    Option.bind (Sl.at? a28 x29) fun y36 =>
    if !((y35.Time == y36.Time) && ((y35.Seq == y36.Seq) && ((y35.Rep == y36.Rep) && true))) then
    some (Out.ret false)
    else
    F19_L0 k a27 a28 n (ad .i64 x29 1)
    else
    some (Out.brk x29)
/-- prefect/prefectref10.Equal -/
def F19 (k : Nat) (a0 : Sl Api_CSN) (a1 : Sl Api_CSN) : Option Bool :=
  if (Sl.len a0) != (Sl.len a1) then
  some false
  else
  Option.bind (F19_L0 k a0 a1 k 0) fun y40 =>
  match y40 with
  | .ret y40r => some y40r
  | .brk y40b =>
  some true
theorem l19_L0 {k : Nat} {a27 : Sl Api_CSN} {a28 : Sl Api_CSN} {S0 : List SObj} {R : List Nat} {K : KX}  {o : Out Bool Int}
    (hret : ∀ r : Bool, o = .ret r → ∀ {σ' : Nat → PV} {S' : List SObj}, Known [(4, (.bool r))] σ' → Hp S0 R S' [] [] [] → K .ret σ' S' false)
    (hbrk : ∀ y : Int, o = .brk y → ∀ {σ' : Nat → PV} {S' : List SObj}, Known [(5, (.int .i64 y))] σ' → Hp S0 R S' [] [] [] → K (.exit 0) σ' S' false) :
    ∀ {n : Nat} {x29 : Int}, F19_L0 k a27 a28 n x29 = some o → ∀ {σ : Nat → PV} {S : List SObj}, Known [(0, (encSl e_Api_CSN a27)), (1, (encSl e_Api_CSN a28)), (5, (.int .i64 x29))] σ → Hp S0 R S [] [] [] → WC env ⟨26, S0.length⟩ (.loop pc19L0) σ S false K := by
  intro n
  induction n with
  | zero => intro _ h; cases h
  | succ n ih =>
    intro x29 h σ S  hk H
    rw [F19_L0] at h
    refine WC.loop ?_
    refine WC.of_known hk ?_
    refine WC.seq ?_
    refine WC.seqR ?_
    refine WO.step (v := (.int .i64 x29)) rfl (nz rfl rfl) ?_
    refine WO.step (v := (encSl e_Api_CSN a27)) rfl (nz rfl rfl) ?_
    refine WO.step (v := (.int .i64 (Sl.len a27))) rfl (nz rfl (stp_len rfl (isSl_enc _ _) rfl)) ?_
    refine WO.step (v := (.bool (decide (x29 < (Sl.len a27))))) rfl (nz rfl rfl) ?_
    refine WO.nil ?_
    rcases iteS h with ⟨hc39, h⟩ | ⟨hc39, h⟩
    · refine WC.condT rfl hc39 ?_
      refine WC.skip ?_
      refine KX.seq_n ?_
      refine WC.seq ?_
      refine WC.block ?_
      refine WC.seq ?_
      refine WC.draw ?_
      refine WH.step (v := (encSl e_Api_CSN a27)) rfl (nz rfl rfl) rfl rfl ?_
      refine WH.step (v := (.int .i64 x29)) rfl (nz rfl rfl) rfl rfl ?_
      obtain ⟨y35, hy35, h⟩ := bindS h
      refine WH.step (v := (.iptr [(.int .i64 y35.Time), (.int .i64 y35.Seq), (.int .i64 y35.Rep)] 0)) rfl (nz rfl (stp_idxAddr rfl (isSl_enc _ _) rfl rfl rfl hy35 (e_Api_CSN_cells _) rfl)) rfl rfl ?_
      refine WH.step (v := (.agg [(.int .i64 y35.Time), (.int .i64 y35.Seq), (.int .i64 y35.Rep)])) rfl (nz rfl rfl) rfl rfl ?_
      refine WH.step (v := (encSl e_Api_CSN a28)) rfl (nz rfl rfl) rfl rfl ?_
      refine WH.step (v := (.int .i64 x29)) rfl (nz rfl rfl) rfl rfl ?_
      obtain ⟨y36, hy36, h⟩ := bindS h
      refine WH.step (v := (.iptr [(.int .i64 y36.Time), (.int .i64 y36.Seq), (.int .i64 y36.Rep)] 0)) rfl (nz rfl (stp_idxAddr rfl (isSl_enc _ _) rfl rfl rfl hy36 (e_Api_CSN_cells _) rfl)) rfl rfl ?_
      refine WH.step (v := (.agg [(.int .i64 y36.Time), (.int .i64 y36.Seq), (.int .i64 y36.Rep)])) rfl (nz rfl rfl) rfl rfl ?_
      refine WH.nil ?_
      refine WO.step (v := (.bool (!((y35.Time == y36.Time) && ((y35.Seq == y36.Seq) && ((y35.Rep == y36.Rep) && true)))))) rfl (nz rfl (stp_ne rfl rfl rfl rfl rfl)) ?_
      refine WO.nil ?_
      refine KX.seq_n ?_
      rcases iteS h with ⟨hc38, h⟩ | ⟨hc38, h⟩
      · refine WC.condT rfl hc38 ?_
        refine WC.seqR ?_
        refine WO.step (v := (.bool false)) rfl (nz rfl rfl) ?_
        refine WO.nil ?_
        refine WC.ret ?_
        refine KX.block_r ?_
        refine KX.seq_r ?_
        refine KX.seq_r ?_
        obtain rfl := Option.some.inj h
        exact hret _ rfl (known_cons rfl known_nil) (H.sub .slnil .slnil .slnil)
      · refine WC.condF rfl hc38 ?_
        refine WC.skip ?_
        refine KX.block_n ?_
        refine KX.seq_n ?_
        refine WC.region ?_
        refine WO.step (v := (.int .i64 x29)) rfl (nz rfl rfl) ?_
        refine WO.step (v := (.int .i64 (ad .i64 x29 1))) rfl (nz rfl rfl) ?_
        refine WO.step (v := (.int .i64 (ad .i64 x29 1))) rfl (nz rfl rfl) ?_
        refine WO.nil ?_
        refine KX.seq_n ?_
        exact ih h  (known_cons rfl (known_cons rfl (known_cons rfl known_nil))) (H.sub .slnil .slnil .slnil)
    · refine WC.condF rfl hc39 ?_
      refine WC.exit ?_
      refine KX.seq_x ?_
      refine KX.seq_x ?_
      obtain rfl := Option.some.inj h
      exact hbrk _ rfl  (known_cons rfl known_nil) (H.sub .slnil .slnil .slnil)
theorem s19 : ∀ k : Nat, ∀ {a0 : Sl Api_CSN} {a1 : Sl Api_CSN} {r : Bool}, F19 k a0 a1 = some r → ∀ {vs : List PV}, vs.map PV.strip = [(encSl e_Api_CSN a0), (encSl e_Api_CSN a1)] → ∀ S : List SObj, evw env 19 vs S = some ((.bool r), S, false) := by
  intro k a0 a1 r h vs ha S
  unfold F19 at h
  refine evw_pureW (pf := fn19) rfl rfl ha (Nat.le_of_ble_eq_true rfl) (by simp [PV.clean, cleanL, clean_encSl clean_Api_CSN]) rfl ?_
  refine WB.of (pf := fn19) rfl ?_
  have H := Hp.start []
  refine WC.seqR ?_
  refine WO.step (v := (.bool false)) rfl (nz rfl rfl) ?_
  refine WO.nil ?_
  refine WC.seq ?_
  refine WC.seqR ?_
  refine WO.step (v := (encSl e_Api_CSN a0)) rfl (nz rfl rfl) ?_
  refine WO.step (v := (.int .i64 (Sl.len a0))) rfl (nz rfl (stp_len rfl (isSl_enc _ _) rfl)) ?_
  refine WO.step (v := (encSl e_Api_CSN a1)) rfl (nz rfl rfl) ?_
  refine WO.step (v := (.int .i64 (Sl.len a1))) rfl (nz rfl (stp_len rfl (isSl_enc _ _) rfl)) ?_
  refine WO.step (v := (.bool ((Sl.len a0) != (Sl.len a1)))) rfl (nz rfl rfl) ?_
  refine WO.nil ?_
  rcases iteS h with ⟨hc41, h⟩ | ⟨hc41, h⟩
  · refine WC.condT rfl hc41 ?_
    refine WC.seqR ?_
    refine WO.step (v := (.bool false)) rfl (nz rfl rfl) ?_
    refine WO.nil ?_
    refine WC.ret ?_
    refine KX.seq_r ?_
    obtain rfl := Option.some.inj h
    refine KB.ret (vs := [(.bool false)]) (res_tmp rfl res_nil) (fl_cons' rfl rfl) ?_
    exact rfl
  · refine WC.condF rfl hc41 ?_
    refine WC.skip ?_
    refine KX.seq_n ?_
    refine WC.seq ?_
    refine WC.seqR ?_
    refine WO.step (v := (.int .i64 0)) rfl (nz rfl rfl) ?_
    refine WO.nil ?_
    obtain ⟨y40, hy40, hOy40⟩ := bindS h
    refine WC.block ?_
    refine l19_L0 ?_ ?_ hy40  (known_cons rfl (known_cons rfl (known_cons rfl known_nil))) (H.sub .slnil .slnil .slnil)
    · intro y40r he σ S  hk H; subst he; replace h := hOy40; dsimp only at h
      refine KX.of_known hk ?_
      refine KX.block_r ?_
      refine KX.seq_r ?_
      obtain rfl := Option.some.inj h
      refine KB.ret (vs := [(.bool y40r)]) (res_tmp rfl res_nil) (fl_cons' rfl rfl) ?_
      exact rfl
    · intro y40b he σ S  hk H; subst he; replace h := hOy40; dsimp only at h
      refine KX.of_known hk ?_
      refine KX.block_x ?_
      refine KX.seq_n ?_
      refine WC.seqR ?_
      refine WO.step (v := (.bool true)) rfl (nz rfl rfl) ?_
      refine WO.nil ?_
      refine WC.ret ?_
      obtain rfl := Option.some.inj h
      refine KB.ret (vs := [(.bool true)]) (res_tmp rfl res_nil) (fl_cons' rfl rfl) ?_
      exact rfl
-- 21 prefect/prefectref10.New
def F21_L0 (k : Nat) (a28 : Int) : Nat → (Sl Api_CSN) → Int → Option ((Sl Api_CSN) × Int)
  | 0, _, _ => none
  | n + 1, x29, x31 =>
    if decide (x31 < (imin a28 6)) then
    Option.bind (Sl.app? 24 x29 (Sl.l (some [(Api_CSN.mk 0 0 x31)]))) fun z37 =>
    F21_L0 k a28 n z37 (ad .i64 x31 1)
    else
    some (x29, x31)
/-- prefect/prefectref10.New -/
def F21 (k : Nat) (a0 : Int) : Option (Sl Api_CSN) :=
  Option.bind (F21_L0 k a0 k none 0) fun y41 =>
  some y41.1
theorem l21_L0 {k : Nat} {a28 : Int} {S0 : List SObj} {R : List Nat} {K : KX}  {o : ((Sl Api_CSN) × Int)}
    (hbrk : ∀ {σ' : Nat → PV} {S' : List SObj}, ∀ (v40 : PV) (_ : IsSl e_Api_CSN o.1 v40), Known [(3, v40), (4, (.int .i64 o.2))] σ' → Hp S0 R S' [] [(v40, 3)] [] → K (.exit 0) σ' S' false) :
    ∀ {n : Nat} {x29 : Sl Api_CSN} {x31 : Int}, F21_L0 k a28 n x29 x31 = some o → ∀ {σ : Nat → PV} {S : List SObj}, ∀ (v30 : PV) (_ : IsSl e_Api_CSN x29 v30), Known [(0, (.int .i64 a28)), (3, v30), (4, (.int .i64 x31))] σ → Hp S0 R S [] [(v30, 3)] [] → WC env ⟨17, S0.length⟩ (.loop pc21L0) σ S false K := by
  intro n
  induction n with
  | zero => intro _ _ h; cases h
  | succ n ih =>
    intro x29 x31 h σ S v30 hv30 hk H
    rw [F21_L0] at h
    refine WC.loop ?_
    refine WC.of_known hk ?_
    refine WC.seq ?_
    refine WC.seqR ?_
    refine WO.step (v := (.int .i64 x31)) rfl (nz rfl rfl) ?_
    refine WO.step (v := (.int .i64 a28)) rfl (nz rfl rfl) ?_
    refine WO.step (v := (.int .i64 (imin a28 6))) rfl (nz rfl rfl) ?_
    refine WO.step (v := (.bool (decide (x31 < (imin a28 6))))) rfl (nz rfl rfl) ?_
    refine WO.nil ?_
    rcases iteS h with ⟨hc39, h⟩ | ⟨hc39, h⟩
    · refine WC.condT rfl hc39 ?_
      refine WC.skip ?_
      refine KX.seq_n ?_
      refine WC.seq ?_
      refine WC.block ?_
      refine WC.region ?_
      refine WO.step (v := v30) rfl (nz rfl rfl) ?_
      refine WO.step (v := (.int .i64 x31)) rfl (nz rfl rfl) ?_
      refine WO.step (v := (.agg [(.int .i64 0), (.int .i64 0), (.int .i64 x31)])) rfl (nz rfl (stp_build (ti := ty50) rfl rfl rfl rfl rfl (fill_cons rfl rfl rfl rfl (Nat.le_of_ble_eq_true rfl) rfl rfl))) ?_
      refine WO.step rfl (nz rfl (stp_buildSlice (ys := [(Api_CSN.mk 0 0 x31)]) (f := e_Api_CSN) (parts := [(0, (.agg [(.int .i64 0), (.int .i64 0), (.int .i64 x31)]))]) rfl rfl rfl rfl rfl rfl (fc ⟨rfl, rfl⟩ (fun p hp => nomatch hp)) rfl)) ?_
      have hv36 : IsSl e_Api_CSN (some [(Api_CSN.mk 0 0 x31)]) _ := ⟨.full, rfl⟩
      obtain ⟨z37, hz37, h⟩ := bindS h
      refine WO.ex rfl (nzx (fz_tmp' hv36.frz rfl) (stp_app (f := e_Api_CSN) (ei := ty50) H 0 rfl rfl hv30 rfl hv36 rfl rfl rfl rfl (fun a => (e_Api_CSN_one a).2.1) hz37)) ?_
      rintro v38 S ⟨hv38, H⟩
      replace H : Hp S0 R _ [] [(v38, 3)] [] := H
      refine WO.step (v := v38) rfl (nz rfl rfl) ?_
      refine WO.nil ?_
      refine KX.block_n ?_
      refine KX.seq_n ?_
      refine WC.region ?_
      refine WO.step (v := (.int .i64 x31)) rfl (nz rfl rfl) ?_
      refine WO.step (v := (.int .i64 (ad .i64 x31 1))) rfl (nz rfl rfl) ?_
      refine WO.step (v := (.int .i64 (ad .i64 x31 1))) rfl (nz rfl rfl) ?_
      refine WO.nil ?_
      refine KX.seq_n ?_
      exact ih h v38 (hv38) (known_cons rfl (known_cons rfl (known_cons rfl known_nil))) (H.sub .slnil (.cons_cons _ .slnil) .slnil)
    · refine WC.condF rfl hc39 ?_
      refine WC.exit ?_
      refine KX.seq_x ?_
      refine KX.seq_x ?_
      obtain rfl := Option.some.inj h
      exact hbrk v30 (hv30) (known_cons rfl (known_cons rfl known_nil)) (H.sub .slnil (.cons_cons _ .slnil) .slnil)
theorem s21 : ∀ k : Nat, ∀ {a0 : Int} {r : (Sl Api_CSN)}, F21 k a0 = some r → ∀ {vs : List PV}, vs.map PV.strip = [(.int .i64 a0)] → ∀ S : List SObj, evw env 21 vs S = some ((encSl e_Api_CSN r), S, false) := by
  intro k a0 r h vs ha S
  unfold F21 at h
  refine evw_pureW (pf := fn21) rfl rfl ha (Nat.le_of_ble_eq_true rfl) rfl (by simp [PV.clean, cleanL, clean_encSl clean_Api_CSN]) ?_
  refine WB.of (pf := fn21) rfl ?_
  have H := Hp.start []
  refine WC.seqR ?_
  refine WO.step (v := .nils) rfl (nz rfl rfl) ?_
  refine WO.nil ?_
  refine WC.seqR ?_
  refine WO.step (v := .nils) rfl (nz rfl rfl) ?_
  refine WO.nil ?_
  refine WC.seq ?_
  refine WC.seqR ?_
  refine WO.step (v := (.int .i64 0)) rfl (nz rfl rfl) ?_
  refine WO.nil ?_
  obtain ⟨y41, hy41, hOy41⟩ := bindS h
  refine WC.block ?_
  have H := H.addNil 3
  refine l21_L0 ?_ hy41 .nils ((isSl_nil _)) (known_cons rfl (known_cons rfl (known_cons rfl known_nil))) (H.sub .slnil (.cons_cons _ .slnil) .slnil)
  · intro σ S v42 hv42 hk H; replace h := hOy41
    refine KX.of_known hk ?_
    refine KX.block_x ?_
    refine KX.seq_n ?_
    refine WC.seqR ?_
    refine WO.step (v := v42) rfl (nz rfl rfl) ?_
    refine WO.step (v := v42) rfl (nz rfl rfl) ?_
    refine WO.nil ?_
    refine WC.ret ?_
    obtain rfl := Option.some.inj h
    refine KB.ret (vs := [v42]) (res_tmp rfl res_nil) (fl_cons' hv42.frz rfl) ?_
    exact (by simp only [st_tup, List.map_cons, List.map_nil, tupled, hv42.strip])
-- 45 prefect/prefectref10.Is
/-- prefect/prefectref10.Is -/
def F45 (k : Nat) (a0 : Api_CSN) : Option Bool :=
  some ((((((decide (a0.Time ≥ 0)) && (decide (a0.Time ≤ 1099511627776))) && (decide (a0.Seq ≥ 0))) && (decide (a0.Seq ≤ 65535))) && (decide (a0.Rep ≥ 0))) && (decide (a0.Rep < 6)))
theorem s45 : ∀ k : Nat, ∀ {a0 : Api_CSN} {r : Bool}, F45 k a0 = some r → ∀ {vs : List PV}, vs.map PV.strip = [(.agg [(.int .i64 a0.Time), (.int .i64 a0.Seq), (.int .i64 a0.Rep)])] → ∀ S : List SObj, evw env 45 vs S = some ((.bool r), S, false) := by
  intro k a0 r h vs ha S
  unfold F45 at h
  refine evw_pureW (pf := fn45) rfl rfl ha (Nat.le_of_ble_eq_true rfl) rfl rfl ?_
  refine WB.of (pf := fn45) rfl ?_
  have H := Hp.start []
  refine WC.seqR ?_
  refine WO.box' rfl rfl rfl rfl rfl H ?_
  intro i1 S hi1 H
  refine WO.step (v := (.bool false)) rfl (nz rfl rfl) ?_
  refine WO.nil ?_
  refine WC.seqR ?_
  refine WO.step (v := (.ptr i1 0)) rfl (nz rfl rfl) ?_
  refine WO.step (v := (.int .i64 a0.Time)) rfl (nz rfl (stp_load rfl (H.get 0 rfl) rfl)) ?_
  refine WO.step (v := (.bool (decide (a0.Time ≥ 0)))) rfl (nz rfl rfl) ?_
  refine WO.step (v := (.bool (decide (a0.Time ≥ 0)))) rfl (nz rfl rfl) ?_
  refine WO.split 4 (fun σ' S' e' => Known ([(1, (.ptr i1 0)), (10, (.bool ((decide (a0.Time ≥ 0)) && (decide (a0.Time ≤ 1099511627776)))))]) σ' ∧ Hp [] [] S' [(i1, .cells [(.int .i64 a0.Time), (.int .i64 a0.Seq), (.int .i64 a0.Rep)])] [] [] ∧ e' = false) ?_ ?_
  · cases hc2 : (decide (a0.Time ≥ 0))
    · skip
      refine WO.by rfl rfl rfl ?_
      refine WO.by rfl rfl rfl ?_
      refine WO.by rfl rfl rfl ?_
      refine WO.step (v := (.bool false)) rfl (nz rfl rfl) ?_
      refine WO.nil ?_
      exact ⟨(known_cons rfl (known_cons rfl known_nil)), H, rfl⟩
    · skip
      refine WO.go0 rfl rfl ?_
      refine WO.step (v := (.ptr i1 0)) rfl (nz rfl rfl) ?_
      refine WO.go0 rfl rfl ?_
      refine WO.step (v := (.int .i64 a0.Time)) rfl (nz rfl (stp_load rfl (H.get 0 rfl) rfl)) ?_
      refine WO.go0 rfl rfl ?_
      refine WO.step (v := (.bool (decide (a0.Time ≤ 1099511627776)))) rfl (nz rfl rfl) ?_
      refine WO.step (v := (.bool (decide (a0.Time ≤ 1099511627776)))) rfl (nz rfl rfl) ?_
      refine WO.nil ?_
      exact ⟨(known_cons rfl (known_cons rfl known_nil)), H, rfl⟩
  · rintro σ S e ⟨hk, H, rfl⟩
    refine WO.of_known hk ?_
    refine WO.step (v := (.bool ((decide (a0.Time ≥ 0)) && (decide (a0.Time ≤ 1099511627776))))) rfl (nz rfl rfl) ?_
    refine WO.split 4 (fun σ' S' e' => Known ([(1, (.ptr i1 0)), (15, (.bool (((decide (a0.Time ≥ 0)) && (decide (a0.Time ≤ 1099511627776))) && (decide (a0.Seq ≥ 0)))))]) σ' ∧ Hp [] [] S' [(i1, .cells [(.int .i64 a0.Time), (.int .i64 a0.Seq), (.int .i64 a0.Rep)])] [] [] ∧ e' = false) ?_ ?_
    · cases hc3 : ((decide (a0.Time ≥ 0)) && (decide (a0.Time ≤ 1099511627776)))
      · skip
        refine WO.by rfl rfl rfl ?_
        refine WO.by rfl rfl rfl ?_
        refine WO.by rfl rfl rfl ?_
        refine WO.step (v := (.bool false)) rfl (nz rfl rfl) ?_
        refine WO.nil ?_
        exact ⟨(known_cons rfl (known_cons rfl known_nil)), H, rfl⟩
      · skip
        refine WO.go0 rfl rfl ?_
        refine WO.step (v := (.ptr i1 1)) rfl (nz rfl rfl) ?_
        refine WO.go0 rfl rfl ?_
        refine WO.step (v := (.int .i64 a0.Seq)) rfl (nz rfl (stp_load rfl (H.get 0 rfl) rfl)) ?_
        refine WO.go0 rfl rfl ?_
        refine WO.step (v := (.bool (decide (a0.Seq ≥ 0)))) rfl (nz rfl rfl) ?_
        refine WO.step (v := (.bool (decide (a0.Seq ≥ 0)))) rfl (nz rfl rfl) ?_
        refine WO.nil ?_
        exact ⟨(known_cons rfl (known_cons rfl known_nil)), H, rfl⟩
    · rintro σ S e ⟨hk, H, rfl⟩
      refine WO.of_known hk ?_
      refine WO.step (v := (.bool (((decide (a0.Time ≥ 0)) && (decide (a0.Time ≤ 1099511627776))) && (decide (a0.Seq ≥ 0))))) rfl (nz rfl rfl) ?_
      refine WO.split 4 (fun σ' S' e' => Known ([(1, (.ptr i1 0)), (20, (.bool ((((decide (a0.Time ≥ 0)) && (decide (a0.Time ≤ 1099511627776))) && (decide (a0.Seq ≥ 0))) && (decide (a0.Seq ≤ 65535)))))]) σ' ∧ Hp [] [] S' [(i1, .cells [(.int .i64 a0.Time), (.int .i64 a0.Seq), (.int .i64 a0.Rep)])] [] [] ∧ e' = false) ?_ ?_
      · cases hc4 : (((decide (a0.Time ≥ 0)) && (decide (a0.Time ≤ 1099511627776))) && (decide (a0.Seq ≥ 0)))
        · skip
          refine WO.by rfl rfl rfl ?_
          refine WO.by rfl rfl rfl ?_
          refine WO.by rfl rfl rfl ?_
          refine WO.step (v := (.bool false)) rfl (nz rfl rfl) ?_
          refine WO.nil ?_
          exact ⟨(known_cons rfl (known_cons rfl known_nil)), H, rfl⟩
        · skip
          refine WO.go0 rfl rfl ?_
          refine WO.step (v := (.ptr i1 1)) rfl (nz rfl rfl) ?_
          refine WO.go0 rfl rfl ?_
          refine WO.step (v := (.int .i64 a0.Seq)) rfl (nz rfl (stp_load rfl (H.get 0 rfl) rfl)) ?_
          refine WO.go0 rfl rfl ?_
          refine WO.step (v := (.bool (decide (a0.Seq ≤ 65535)))) rfl (nz rfl rfl) ?_
          refine WO.step (v := (.bool (decide (a0.Seq ≤ 65535)))) rfl (nz rfl rfl) ?_
          refine WO.nil ?_
          exact ⟨(known_cons rfl (known_cons rfl known_nil)), H, rfl⟩
      · rintro σ S e ⟨hk, H, rfl⟩
        refine WO.of_known hk ?_
        refine WO.step (v := (.bool ((((decide (a0.Time ≥ 0)) && (decide (a0.Time ≤ 1099511627776))) && (decide (a0.Seq ≥ 0))) && (decide (a0.Seq ≤ 65535))))) rfl (nz rfl rfl) ?_
        refine WO.split 4 (fun σ' S' e' => Known ([(1, (.ptr i1 0)), (25, (.bool (((((decide (a0.Time ≥ 0)) && (decide (a0.Time ≤ 1099511627776))) && (decide (a0.Seq ≥ 0))) && (decide (a0.Seq ≤ 65535))) && (decide (a0.Rep ≥ 0)))))]) σ' ∧ Hp [] [] S' [(i1, .cells [(.int .i64 a0.Time), (.int .i64 a0.Seq), (.int .i64 a0.Rep)])] [] [] ∧ e' = false) ?_ ?_
        · cases hc5 : ((((decide (a0.Time ≥ 0)) && (decide (a0.Time ≤ 1099511627776))) && (decide (a0.Seq ≥ 0))) && (decide (a0.Seq ≤ 65535)))
          · skip
            refine WO.by rfl rfl rfl ?_
            refine WO.by rfl rfl rfl ?_
            refine WO.by rfl rfl rfl ?_
            refine WO.step (v := (.bool false)) rfl (nz rfl rfl) ?_
            refine WO.nil ?_
            exact ⟨(known_cons rfl (known_cons rfl known_nil)), H, rfl⟩
          · skip
            refine WO.go0 rfl rfl ?_
            refine WO.step (v := (.ptr i1 2)) rfl (nz rfl rfl) ?_
            refine WO.go0 rfl rfl ?_
            refine WO.step (v := (.int .i64 a0.Rep)) rfl (nz rfl (stp_load rfl (H.get 0 rfl) rfl)) ?_
            refine WO.go0 rfl rfl ?_
            refine WO.step (v := (.bool (decide (a0.Rep ≥ 0)))) rfl (nz rfl rfl) ?_
            refine WO.step (v := (.bool (decide (a0.Rep ≥ 0)))) rfl (nz rfl rfl) ?_
            refine WO.nil ?_
            exact ⟨(known_cons rfl (known_cons rfl known_nil)), H, rfl⟩
        · rintro σ S e ⟨hk, H, rfl⟩
          refine WO.of_known hk ?_
          refine WO.step (v := (.bool (((((decide (a0.Time ≥ 0)) && (decide (a0.Time ≤ 1099511627776))) && (decide (a0.Seq ≥ 0))) && (decide (a0.Seq ≤ 65535))) && (decide (a0.Rep ≥ 0))))) rfl (nz rfl rfl) ?_
          refine WO.split 4 (fun σ' S' e' => Known ([(30, (.bool ((((((decide (a0.Time ≥ 0)) && (decide (a0.Time ≤ 1099511627776))) && (decide (a0.Seq ≥ 0))) && (decide (a0.Seq ≤ 65535))) && (decide (a0.Rep ≥ 0))) && (decide (a0.Rep < 6)))))]) σ' ∧ Hp [] [] S' [(i1, .cells [(.int .i64 a0.Time), (.int .i64 a0.Seq), (.int .i64 a0.Rep)])] [] [] ∧ e' = false) ?_ ?_
          · cases hc6 : (((((decide (a0.Time ≥ 0)) && (decide (a0.Time ≤ 1099511627776))) && (decide (a0.Seq ≥ 0))) && (decide (a0.Seq ≤ 65535))) && (decide (a0.Rep ≥ 0)))
            · skip
              refine WO.by rfl rfl rfl ?_
              refine WO.by rfl rfl rfl ?_
              refine WO.by rfl rfl rfl ?_
              refine WO.step (v := (.bool false)) rfl (nz rfl rfl) ?_
              refine WO.nil ?_
              exact ⟨(known_cons rfl known_nil), H, rfl⟩
            · skip
              refine WO.go0 rfl rfl ?_
              refine WO.step (v := (.ptr i1 2)) rfl (nz rfl rfl) ?_
              refine WO.go0 rfl rfl ?_
              refine WO.step (v := (.int .i64 a0.Rep)) rfl (nz rfl (stp_load rfl (H.get 0 rfl) rfl)) ?_
              refine WO.go0 rfl rfl ?_
              refine WO.step (v := (.bool (decide (a0.Rep < 6)))) rfl (nz rfl rfl) ?_
              refine WO.step (v := (.bool (decide (a0.Rep < 6)))) rfl (nz rfl rfl) ?_
              refine WO.nil ?_
              exact ⟨(known_cons rfl known_nil), H, rfl⟩
          · rintro σ S e ⟨hk, H, rfl⟩
            refine WO.of_known hk ?_
            refine WO.step (v := (.bool ((((((decide (a0.Time ≥ 0)) && (decide (a0.Time ≤ 1099511627776))) && (decide (a0.Seq ≥ 0))) && (decide (a0.Seq ≤ 65535))) && (decide (a0.Rep ≥ 0))) && (decide (a0.Rep < 6))))) rfl (nz rfl rfl) ?_
            refine WO.nil ?_
            refine WC.ret ?_
            obtain rfl := Option.some.inj h
            refine KB.ret (vs := [(.bool ((((((decide (a0.Time ≥ 0)) && (decide (a0.Time ≤ 1099511627776))) && (decide (a0.Seq ≥ 0))) && (decide (a0.Seq ≤ 65535))) && (decide (a0.Rep ≥ 0))) && (decide (a0.Rep < 6))))]) (res_tmp rfl res_nil) (fl_cons' rfl rfl) ?_
            exact rfl
-- 23 prefect/prefectref10.IsVector
def F23_L0 (k : Nat) (a52 : Sl Api_CSN) : Nat → Int → Option (Out Bool Int)
  | 0, _ => none
  | n + 1, x53 =>
    if decide (x53 < (Sl.len a52)) then
    Option.bind (Sl.at? a52 x53) fun y66 =>
    Option.bind (F45 k y66) fun y67 =>
    Option.bind (if !y67 then
    some true
    else
    Option.bind (Sl.at? a52 x53) fun y73 =>
    some (y73.Rep != x53)) fun y72 =>
    if y72 then
    some (Out.ret false)
    else
    F23_L0 k a52 n (ad .i64 x53 1)
    else
    some (Out.brk x53)
/-- prefect/prefectref10.IsVector -/
def F23 (k : Nat) (a0 : Sl Api_CSN) : Option Bool :=
  Option.bind (F23_L0 k a0 k 0) fun y78 =>
  match y78 with
  | .ret y78r => some y78r
  | .brk y78b =>
  some (decide ((Sl.len a0) ≤ 6))
theorem l23_L0 {k : Nat} {a52 : Sl Api_CSN} {S0 : List SObj} {R : List Nat} {K : KX}  {o : Out Bool Int}
    (hret : ∀ r : Bool, o = .ret r → ∀ {σ' : Nat → PV} {S' : List SObj}, Known [(2, (.bool r))] σ' → Hp S0 R S' [] [] [] → K .ret σ' S' false)
    (hbrk : ∀ y : Int, o = .brk y → ∀ {σ' : Nat → PV} {S' : List SObj}, Known [(0, (encSl e_Api_CSN a52)), (3, (.int .i64 y))] σ' → Hp S0 R S' [] [] [] → K (.exit 0) σ' S' false) :
    ∀ {n : Nat} {x53 : Int}, F23_L0 k a52 n x53 = some o → ∀ {σ : Nat → PV} {S : List SObj}, Known [(0, (encSl e_Api_CSN a52)), (3, (.int .i64 x53))] σ → Hp S0 R S [] [] [] → WC env ⟨28, S0.length⟩ (.loop pc23L0) σ S false K := by
  intro n
  induction n with
  | zero => intro _ h; cases h
  | succ n ih =>
    intro x53 h σ S  hk H
    rw [F23_L0] at h
    refine WC.loop ?_
    refine WC.of_known hk ?_
    refine WC.seq ?_
    refine WC.seqR ?_
    refine WO.step (v := (.int .i64 x53)) rfl (nz rfl rfl) ?_
    refine WO.step (v := (encSl e_Api_CSN a52)) rfl (nz rfl rfl) ?_
    refine WO.step (v := (.int .i64 (Sl.len a52))) rfl (nz rfl (stp_len rfl (isSl_enc _ _) rfl)) ?_
    refine WO.step (v := (.bool (decide (x53 < (Sl.len a52))))) rfl (nz rfl rfl) ?_
    refine WO.nil ?_
    rcases iteS h with ⟨hc77, h⟩ | ⟨hc77, h⟩
    · refine WC.condT rfl hc77 ?_
      refine WC.skip ?_
      refine KX.seq_n ?_
      refine WC.seq ?_
      refine WC.block ?_
      refine WC.seqR ?_
      refine WO.step (v := (encSl e_Api_CSN a52)) rfl (nz rfl rfl) ?_
      refine WO.step (v := (.int .i64 x53)) rfl (nz rfl rfl) ?_
      obtain ⟨y66, hy66, h⟩ := bindS h
      refine WO.step (v := (.iptr [(.int .i64 y66.Time), (.int .i64 y66.Seq), (.int .i64 y66.Rep)] 0)) rfl (nz rfl (stp_idxAddr rfl (isSl_enc _ _) rfl rfl rfl hy66 (e_Api_CSN_cells _) rfl)) ?_
      refine WO.step (v := (.agg [(.int .i64 y66.Time), (.int .i64 y66.Seq), (.int .i64 y66.Rep)])) rfl (nz rfl rfl) ?_
      obtain ⟨y67, hy67, h⟩ := bindS h
      refine WO.step (v := (.bool y67)) rfl (nz rfl (stp_call (vs := [(.agg [(.int .i64 y66.Time), (.int .i64 y66.Seq), (.int .i64 y66.Rep)])]) rfl rfl (s45 _ hy67 rfl _))) ?_
      refine WO.step (v := (.bool (!y67))) rfl (nz rfl rfl) ?_
      refine WO.step (v := (.bool (!y67))) rfl (nz rfl rfl) ?_
      obtain ⟨y72, hy72, hOy72⟩ := bindS h
      refine WO.split 8 (fun σ' S' e' => Known ([(0, (encSl e_Api_CSN a52)), (3, (.int .i64 x53)), (24, (.bool y72))]) σ' ∧ Hp S0 R S' [] [] [] ∧ e' = false) ?_ ?_
      · replace h := hy72
        cases hc74 : (!y67)
        · replace h := iteF h hc74
          refine WO.go0 rfl rfl ?_
          refine WO.step (v := (encSl e_Api_CSN a52)) rfl (nz rfl rfl) ?_
          refine WO.go0 rfl rfl ?_
          refine WO.step (v := (.int .i64 x53)) rfl (nz rfl rfl) ?_
          refine WO.go0 rfl rfl ?_
          obtain ⟨y73, hy73, h⟩ := bindS h
          refine WO.step (v := (.iptr [(.int .i64 y73.Time), (.int .i64 y73.Seq), (.int .i64 y73.Rep)] 0)) rfl (nz rfl (stp_idxAddr rfl (isSl_enc _ _) rfl rfl rfl hy73 (e_Api_CSN_cells _) rfl)) ?_
          refine WO.go0 rfl rfl ?_
          refine WO.step (v := (.iptr [(.int .i64 y73.Time), (.int .i64 y73.Seq), (.int .i64 y73.Rep)] 2)) rfl (nz rfl rfl) ?_
          refine WO.go0 rfl rfl ?_
          refine WO.step (v := (.int .i64 y73.Rep)) rfl (nz rfl rfl) ?_
          refine WO.go0 rfl rfl ?_
          refine WO.step (v := (.int .i64 x53)) rfl (nz rfl rfl) ?_
          refine WO.go0 rfl rfl ?_
          refine WO.step (v := (.bool (y73.Rep != x53))) rfl (nz rfl rfl) ?_
          refine WO.step (v := (.bool (y73.Rep != x53))) rfl (nz rfl rfl) ?_
          refine WO.nil ?_
          obtain rfl := Option.some.inj h
          exact ⟨(known_cons rfl (known_cons rfl (known_cons rfl known_nil))), (H.sub .slnil .slnil .slnil), rfl⟩
        · replace h := iteT h hc74
          refine WO.by rfl rfl rfl ?_
          refine WO.by rfl rfl rfl ?_
          refine WO.by rfl rfl rfl ?_
          refine WO.by rfl rfl rfl ?_
          refine WO.by rfl rfl rfl ?_
          refine WO.by rfl rfl rfl ?_
          refine WO.by rfl rfl rfl ?_
          refine WO.step (v := (.bool true)) rfl (nz rfl rfl) ?_
          refine WO.nil ?_
          obtain rfl := Option.some.inj h
          exact ⟨(known_cons rfl (known_cons rfl (known_cons rfl known_nil))), (H.sub .slnil .slnil .slnil), rfl⟩
      · rintro σ S e ⟨hk, H, rfl⟩
        replace h := hOy72
        refine WO.of_known hk ?_
        refine WO.nil ?_
        rcases iteS h with ⟨hc76, h⟩ | ⟨hc76, h⟩
        · refine WC.condT rfl hc76 ?_
          refine WC.seqR ?_
          refine WO.step (v := (.bool false)) rfl (nz rfl rfl) ?_
          refine WO.nil ?_
          refine WC.ret ?_
          refine KX.block_r ?_
          refine KX.seq_r ?_
          refine KX.seq_r ?_
          obtain rfl := Option.some.inj h
          exact hret _ rfl (known_cons rfl known_nil) (H.sub .slnil .slnil .slnil)
        · refine WC.condF rfl hc76 ?_
          refine WC.skip ?_
          refine KX.block_n ?_
          refine KX.seq_n ?_
          refine WC.region ?_
          refine WO.step (v := (.int .i64 x53)) rfl (nz rfl rfl) ?_
          refine WO.step (v := (.int .i64 (ad .i64 x53 1))) rfl (nz rfl rfl) ?_
          refine WO.step (v := (.int .i64 (ad .i64 x53 1))) rfl (nz rfl rfl) ?_
          refine WO.nil ?_
          refine KX.seq_n ?_
          exact ih h  (known_cons rfl (known_cons rfl known_nil)) (H.sub .slnil .slnil .slnil)
    · refine WC.condF rfl hc77 ?_
      refine WC.exit ?_
      refine KX.seq_x ?_
      refine KX.seq_x ?_
      obtain rfl := Option.some.inj h
      exact hbrk _ rfl  (known_cons rfl (known_cons rfl known_nil)) (H.sub .slnil .slnil .slnil)
theorem s23 : ∀ k : Nat, ∀ {a0 : Sl Api_CSN} {r : Bool}, F23 k a0 = some r → ∀ {vs : List PV}, vs.map PV.strip = [(encSl e_Api_CSN a0)] → ∀ S : List SObj, evw env 23 vs S = some ((.bool r), S, false) := by
  intro k a0 r h vs ha S
  unfold F23 at h
  refine evw_pureW (pf := fn23) rfl rfl ha (Nat.le_of_ble_eq_true rfl) (by simp [PV.clean, cleanL, clean_encSl clean_Api_CSN]) rfl ?_
  refine WB.of (pf := fn23) rfl ?_
  have H := Hp.start []
  refine WC.seqR ?_
  refine WO.step (v := (.bool false)) rfl (nz rfl rfl) ?_
  refine WO.nil ?_
  refine WC.seq ?_
  refine WC.seqR ?_
  refine WO.step (v := (.int .i64 0)) rfl (nz rfl rfl) ?_
  refine WO.nil ?_
  obtain ⟨y78, hy78, hOy78⟩ := bindS h
  refine WC.block ?_
  refine l23_L0 ?_ ?_ hy78  (known_cons rfl (known_cons rfl known_nil)) (H.sub .slnil .slnil .slnil)
  · intro y78r he σ S  hk H; subst he; replace h := hOy78; dsimp only at h
    refine KX.of_known hk ?_
    refine KX.block_r ?_
    refine KX.seq_r ?_
    obtain rfl := Option.some.inj h
    refine KB.ret (vs := [(.bool y78r)]) (res_tmp rfl res_nil) (fl_cons' rfl rfl) ?_
    exact rfl
  · intro y78b he σ S  hk H; subst he; replace h := hOy78; dsimp only at h
    refine KX.of_known hk ?_
    refine KX.block_x ?_
    refine KX.seq_n ?_
    refine WC.seqR ?_
    refine WO.step (v := (encSl e_Api_CSN a0)) rfl (nz rfl rfl) ?_
    refine WO.step (v := (.int .i64 (Sl.len a0))) rfl (nz rfl (stp_len rfl (isSl_enc _ _) rfl)) ?_
    refine WO.step (v := (.bool (decide ((Sl.len a0) ≤ 6)))) rfl (nz rfl rfl) ?_
    refine WO.step (v := (.bool (decide ((Sl.len a0) ≤ 6)))) rfl (nz rfl rfl) ?_
    refine WO.nil ?_
    refine WC.ret ?_
    obtain rfl := Option.some.inj h
    refine KB.ret (vs := [(.bool (decide ((Sl.len a0) ≤ 6)))]) (res_tmp rfl res_nil) (fl_cons' rfl rfl) ?_
    exact rfl
-- 37 prefect/prefectref10.Own
/-- prefect/prefectref10.Own -/
def F37 (k : Nat) (a0 : Sl Api_CSN) : Option (Sl Api_CSN) :=
  Option.bind (F23 k a0) fun y1 =>
  if !y1 then
  some none
  else
  Option.bind (Sl.app? 24 none (Sl.l a0)) fun z3 =>
  some z3
theorem s37 : ∀ k : Nat, ∀ {a0 : Sl Api_CSN} {r : (Sl Api_CSN)}, F37 k a0 = some r → ∀ {vs : List PV}, vs.map PV.strip = [(encSl e_Api_CSN a0)] → ∀ S : List SObj, ∃ v S', evw env 37 vs S = some (v, S', false) ∧ IsW r v ∧ Hp S [] S' [] [] [(v, rowO e_Api_CSN 3 false r)] := by
  intro k a0 r h vs ha S
  unfold F37 at h
  refine evw_rawW (pf := fn37) rfl rfl ha (by simp only [List.map_cons, List.map_nil, strip_enc, st_int, st_bool, st_str]) (Nat.le_of_ble_eq_true rfl) (by simp [PV.clean, cleanL, clean_encSl clean_Api_CSN]) ?_ S
  intro vs S0 ha
  obtain ⟨u0, vs, rfl, hu0, ha⟩ := arg_cons ha
  replace hu0 := sl_of_strip hu0
  obtain rfl := arg_nil ha
  refine WB.of (pf := fn37) rfl ?_
  have H := Hp.start S0
  refine WC.seqR ?_
  refine WO.step (v := .nils) rfl (nz rfl rfl) ?_
  refine WO.nil ?_
  refine WC.seq ?_
  refine WC.seqR ?_
  refine WO.step (v := u0) rfl (nz rfl rfl) ?_
  obtain ⟨y1, hy1, h⟩ := bindS h
  refine WO.step (v := (.bool y1)) rfl (nz (fz_tmp' hu0.frz rfl) (stp_call (vs := [u0]) rfl rfl (s23 _ hy1 (by simp only [hu0.strip, List.map_cons, List.map_nil, tupled]) _))) ?_
  refine WO.step (v := (.bool (!y1))) rfl (nz rfl rfl) ?_
  refine WO.nil ?_
  rcases iteS h with ⟨hc5, h⟩ | ⟨hc5, h⟩
  · refine WC.condT rfl hc5 ?_
    refine WC.seqR ?_
    refine WO.step (v := .nils) rfl (nz rfl rfl) ?_
    refine WO.nil ?_
    refine WC.ret ?_
    refine KX.seq_r ?_
    obtain rfl := Option.some.inj h
    have H := H.addNoW .nils (rowO (α := Api_CSN) e_Api_CSN 3 false none) rfl
    refine KB.retR (vs := [.nils]) (res_tmp rfl res_nil) ?_
    exact ⟨isW_nil, rfl, H.sub .slnil .slnil (.cons_cons _ .slnil)⟩
  · refine WC.condF rfl hc5 ?_
    refine WC.skip ?_
    refine KX.seq_n ?_
    refine WC.seqR ?_
    refine WO.step (v := u0) rfl (nz rfl rfl) ?_
    obtain ⟨z3, hz3, h⟩ := bindS h
    have H := H.addNoW .nils (rowO e_Api_CSN 3 false none) rfl
    refine WO.ex rfl (bzn (fz_tmp' hu0.frz rfl) (born_app (f := e_Api_CSN) (ei := ty50) H 0 rfl rfl isW_nil rfl hu0 rfl rfl rfl rfl (fun a => (e_Api_CSN_one a).2.1) hz3)) ?_
    rintro v4 S ⟨hv4, H⟩
    replace H : Hp S0 [] _ [] [] [(v4, rowO e_Api_CSN 3 false z3)] := H
    refine WO.step (v := v4) rfl (nz rfl rfl) ?_
    refine WO.nil ?_
    refine WC.ret ?_
    obtain rfl := Option.some.inj h
    refine KB.retR (vs := [v4]) (res_tmp rfl res_nil) ?_
    exact ⟨hv4, rfl, H.sub .slnil .slnil (.cons_cons _ .slnil)⟩
-- 51 prefect/prefectref10.Cmp
/-- prefect/prefectref10.Cmp -/
def F51 (k : Nat) (a0 : Api_CSN) (a1 : Api_CSN) : Option Int :=
  if (decide (a0.Time < a1.Time)) || ((a0.Time == a1.Time) && ((decide (a0.Seq < a1.Seq)) || ((a0.Seq == a1.Seq) && (decide (a0.Rep < a1.Rep))))) then
  some (-1)
  else
  if (a0.Time == a1.Time) && ((a0.Seq == a1.Seq) && ((a0.Rep == a1.Rep) && true)) then
  some 0
  else
  some 1
theorem s51 : ∀ k : Nat, ∀ {a0 : Api_CSN} {a1 : Api_CSN} {r : Int}, F51 k a0 a1 = some r → ∀ {vs : List PV}, vs.map PV.strip = [(.agg [(.int .i64 a0.Time), (.int .i64 a0.Seq), (.int .i64 a0.Rep)]), (.agg [(.int .i64 a1.Time), (.int .i64 a1.Seq), (.int .i64 a1.Rep)])] → ∀ S : List SObj, evw env 51 vs S = some ((.int .i64 r), S, false) := by
  intro k a0 a1 r h vs ha S
  unfold F51 at h
  refine evw_pureW (pf := fn51) rfl rfl ha (Nat.le_of_ble_eq_true rfl) rfl rfl ?_
  refine WB.of (pf := fn51) rfl ?_
  have H := Hp.start []
  refine WC.seqR ?_
  refine WO.box' rfl rfl rfl rfl rfl H ?_
  intro i1 S hi1 H
  refine WO.box' rfl rfl rfl rfl rfl H ?_
  intro i2 S hi2 H
  refine WO.step (v := (.int .i64 0)) rfl (nz rfl rfl) ?_
  refine WO.nil ?_
  refine WC.seq ?_
  refine WC.block ?_
  refine WC.seqR ?_
  refine WO.step (v := (.ptr i1 0)) rfl (nz rfl rfl) ?_
  refine WO.step (v := (.int .i64 a0.Time)) rfl (nz rfl (stp_load rfl (H.get 1 rfl) rfl)) ?_
  refine WO.step (v := (.ptr i2 0)) rfl (nz rfl rfl) ?_
  refine WO.step (v := (.int .i64 a1.Time)) rfl (nz rfl (stp_load rfl (H.get 0 rfl) rfl)) ?_
  refine WO.step (v := (.bool (decide (a0.Time < a1.Time)))) rfl (nz rfl rfl) ?_
  refine WO.step (v := (.bool (decide (a0.Time < a1.Time)))) rfl (nz rfl rfl) ?_
  refine WO.split 27 (fun σ' S' e' => Known ([(2, (.ptr i1 0)), (3, (.ptr i2 0)), (38, (.bool ((decide (a0.Time < a1.Time)) || ((a0.Time == a1.Time) && ((decide (a0.Seq < a1.Seq)) || ((a0.Seq == a1.Seq) && (decide (a0.Rep < a1.Rep))))))))]) σ' ∧ Hp [] [] S' [(i2, .cells [(.int .i64 a1.Time), (.int .i64 a1.Seq), (.int .i64 a1.Rep)]), (i1, .cells [(.int .i64 a0.Time), (.int .i64 a0.Seq), (.int .i64 a0.Rep)])] [] [] ∧ e' = false) ?_ ?_
  · cases hc75 : (decide (a0.Time < a1.Time))
    · skip
      refine WO.go0 rfl rfl ?_
      refine WO.step (v := (.ptr i1 0)) rfl (nz rfl rfl) ?_
      refine WO.go0 rfl rfl ?_
      refine WO.step (v := (.int .i64 a0.Time)) rfl (nz rfl (stp_load rfl (H.get 1 rfl) rfl)) ?_
      refine WO.go0 rfl rfl ?_
      refine WO.step (v := (.ptr i2 0)) rfl (nz rfl rfl) ?_
      refine WO.go0 rfl rfl ?_
      refine WO.step (v := (.int .i64 a1.Time)) rfl (nz rfl (stp_load rfl (H.get 0 rfl) rfl)) ?_
      refine WO.go0 rfl rfl ?_
      refine WO.step (v := (.bool (a0.Time == a1.Time))) rfl (nz rfl rfl) ?_
      refine WO.go0 rfl rfl ?_
      refine WO.step (v := (.bool (a0.Time == a1.Time))) rfl (nz rfl rfl) ?_
      refine WO.split 20 (fun σ' S' e' => Known ([(2, (.ptr i1 0)), (3, (.ptr i2 0)), (11, (.bool false)), (37, (.bool ((a0.Time == a1.Time) && ((decide (a0.Seq < a1.Seq)) || ((a0.Seq == a1.Seq) && (decide (a0.Rep < a1.Rep)))))))]) σ' ∧ Hp [] [] S' [(i2, .cells [(.int .i64 a1.Time), (.int .i64 a1.Seq), (.int .i64 a1.Rep)]), (i1, .cells [(.int .i64 a0.Time), (.int .i64 a0.Seq), (.int .i64 a0.Rep)])] [] [] ∧ e' = false) ?_ ?_
      · cases hc84 : (a0.Time == a1.Time)
        · skip
          refine WO.by rfl rfl rfl ?_
          refine WO.by rfl rfl rfl ?_
          refine WO.by rfl rfl rfl ?_
          refine WO.by rfl rfl rfl ?_
          refine WO.by rfl rfl rfl ?_
          refine WO.by rfl rfl rfl ?_
          refine WO.by0 rfl rfl ?_
          refine WO.by0 rfl rfl ?_
          refine WO.by0 rfl rfl ?_
          refine WO.by0 rfl rfl ?_
          refine WO.by0 rfl rfl ?_
          refine WO.by0 rfl rfl ?_
          refine WO.by0 rfl rfl ?_
          refine WO.by0 rfl rfl ?_
          refine WO.by0 rfl rfl ?_
          refine WO.by0 rfl rfl ?_
          refine WO.by0 rfl rfl ?_
          refine WO.by0 rfl rfl ?_
          refine WO.by rfl rfl rfl ?_
          refine WO.go0 rfl rfl ?_
          refine WO.step (v := (.bool false)) rfl (nz rfl rfl) ?_
          refine WO.nil ?_
          exact ⟨(known_cons rfl (known_cons rfl (known_cons rfl (known_cons rfl known_nil)))), H, rfl⟩
        · skip
          refine WO.go0 rfl rfl ?_
          refine WO.step (v := (.ptr i1 1)) rfl (nz rfl rfl) ?_
          refine WO.go0 rfl rfl ?_
          refine WO.step (v := (.int .i64 a0.Seq)) rfl (nz rfl (stp_load rfl (H.get 1 rfl) rfl)) ?_
          refine WO.go0 rfl rfl ?_
          refine WO.step (v := (.ptr i2 1)) rfl (nz rfl rfl) ?_
          refine WO.go0 rfl rfl ?_
          refine WO.step (v := (.int .i64 a1.Seq)) rfl (nz rfl (stp_load rfl (H.get 0 rfl) rfl)) ?_
          refine WO.go0 rfl rfl ?_
          refine WO.step (v := (.bool (decide (a0.Seq < a1.Seq)))) rfl (nz rfl rfl) ?_
          refine WO.go0 rfl rfl ?_
          refine WO.step (v := (.bool (decide (a0.Seq < a1.Seq)))) rfl (nz rfl rfl) ?_
          refine WO.split 13 (fun σ' S' e' => Known ([(2, (.ptr i1 0)), (3, (.ptr i2 0)), (11, (.bool false)), (17, (.bool true)), (36, (.bool ((decide (a0.Seq < a1.Seq)) || ((a0.Seq == a1.Seq) && (decide (a0.Rep < a1.Rep))))))]) σ' ∧ Hp [] [] S' [(i2, .cells [(.int .i64 a1.Time), (.int .i64 a1.Seq), (.int .i64 a1.Rep)]), (i1, .cells [(.int .i64 a0.Time), (.int .i64 a0.Seq), (.int .i64 a0.Rep)])] [] [] ∧ e' = false) ?_ ?_
          · cases hc87 : (decide (a0.Seq < a1.Seq))
            · skip
              refine WO.go0 rfl rfl ?_
              refine WO.step (v := (.ptr i1 1)) rfl (nz rfl rfl) ?_
              refine WO.go0 rfl rfl ?_
              refine WO.step (v := (.int .i64 a0.Seq)) rfl (nz rfl (stp_load rfl (H.get 1 rfl) rfl)) ?_
              refine WO.go0 rfl rfl ?_
              refine WO.step (v := (.ptr i2 1)) rfl (nz rfl rfl) ?_
              refine WO.go0 rfl rfl ?_
              refine WO.step (v := (.int .i64 a1.Seq)) rfl (nz rfl (stp_load rfl (H.get 0 rfl) rfl)) ?_
              refine WO.go0 rfl rfl ?_
              refine WO.step (v := (.bool (a0.Seq == a1.Seq))) rfl (nz rfl rfl) ?_
              refine WO.go0 rfl rfl ?_
              refine WO.step (v := (.bool (a0.Seq == a1.Seq))) rfl (nz rfl rfl) ?_
              refine WO.split 6 (fun σ' S' e' => Known ([(2, (.ptr i1 0)), (3, (.ptr i2 0)), (11, (.bool false)), (17, (.bool true)), (23, (.bool false)), (35, (.bool ((a0.Seq == a1.Seq) && (decide (a0.Rep < a1.Rep)))))]) σ' ∧ Hp [] [] S' [(i2, .cells [(.int .i64 a1.Time), (.int .i64 a1.Seq), (.int .i64 a1.Rep)]), (i1, .cells [(.int .i64 a0.Time), (.int .i64 a0.Seq), (.int .i64 a0.Rep)])] [] [] ∧ e' = false) ?_ ?_
              · cases hc88 : (a0.Seq == a1.Seq)
                · skip
                  refine WO.by rfl rfl rfl ?_
                  refine WO.by rfl rfl rfl ?_
                  refine WO.by rfl rfl rfl ?_
                  refine WO.by rfl rfl rfl ?_
                  refine WO.by rfl rfl rfl ?_
                  refine WO.go0 rfl rfl ?_
                  refine WO.step (v := (.bool false)) rfl (nz rfl rfl) ?_
                  refine WO.nil ?_
                  exact ⟨(known_cons rfl (known_cons rfl (known_cons rfl (known_cons rfl (known_cons rfl (known_cons rfl known_nil)))))), H, rfl⟩
                · skip
                  refine WO.go0 rfl rfl ?_
                  refine WO.step (v := (.ptr i1 2)) rfl (nz rfl rfl) ?_
                  refine WO.go0 rfl rfl ?_
                  refine WO.step (v := (.int .i64 a0.Rep)) rfl (nz rfl (stp_load rfl (H.get 1 rfl) rfl)) ?_
                  refine WO.go0 rfl rfl ?_
                  refine WO.step (v := (.ptr i2 2)) rfl (nz rfl rfl) ?_
                  refine WO.go0 rfl rfl ?_
                  refine WO.step (v := (.int .i64 a1.Rep)) rfl (nz rfl (stp_load rfl (H.get 0 rfl) rfl)) ?_
                  refine WO.go0 rfl rfl ?_
                  refine WO.step (v := (.bool (decide (a0.Rep < a1.Rep)))) rfl (nz rfl rfl) ?_
                  refine WO.go0 rfl rfl ?_
                  refine WO.step (v := (.bool (decide (a0.Rep < a1.Rep)))) rfl (nz rfl rfl) ?_
                  refine WO.nil ?_
                  exact ⟨(known_cons rfl (known_cons rfl (known_cons rfl (known_cons rfl (known_cons rfl (known_cons rfl known_nil)))))), H, rfl⟩
              · rintro σ S e ⟨hk, H, rfl⟩
                refine WO.of_known hk ?_
                refine WO.go0 rfl rfl ?_
                refine WO.step (v := (.bool ((a0.Seq == a1.Seq) && (decide (a0.Rep < a1.Rep))))) rfl (nz rfl rfl) ?_
                refine WO.nil ?_
                exact ⟨(known_cons rfl (known_cons rfl (known_cons rfl (known_cons rfl (known_cons rfl known_nil))))), H, rfl⟩
            · skip
              refine WO.by rfl rfl rfl ?_
              refine WO.by rfl rfl rfl ?_
              refine WO.by rfl rfl rfl ?_
              refine WO.by rfl rfl rfl ?_
              refine WO.by rfl rfl rfl ?_
              refine WO.by rfl rfl rfl ?_
              refine WO.by0 rfl rfl ?_
              refine WO.by0 rfl rfl ?_
              refine WO.by0 rfl rfl ?_
              refine WO.by0 rfl rfl ?_
              refine WO.by0 rfl rfl ?_
              refine WO.by rfl rfl rfl ?_
              refine WO.go0 rfl rfl ?_
              refine WO.step (v := (.bool true)) rfl (nz rfl rfl) ?_
              refine WO.nil ?_
              exact ⟨(known_cons rfl (known_cons rfl (known_cons rfl (known_cons rfl (known_cons rfl known_nil))))), H, rfl⟩
          · rintro σ S e ⟨hk, H, rfl⟩
            refine WO.of_known hk ?_
            refine WO.go0 rfl rfl ?_
            refine WO.step (v := (.bool ((decide (a0.Seq < a1.Seq)) || ((a0.Seq == a1.Seq) && (decide (a0.Rep < a1.Rep)))))) rfl (nz rfl rfl) ?_
            refine WO.nil ?_
            exact ⟨(known_cons rfl (known_cons rfl (known_cons rfl (known_cons rfl known_nil)))), H, rfl⟩
      · rintro σ S e ⟨hk, H, rfl⟩
        refine WO.of_known hk ?_
        refine WO.step (v := (.bool ((a0.Time == a1.Time) && ((decide (a0.Seq < a1.Seq)) || ((a0.Seq == a1.Seq) && (decide (a0.Rep < a1.Rep))))))) rfl (nz rfl rfl) ?_
        refine WO.nil ?_
        exact ⟨(known_cons rfl (known_cons rfl (known_cons rfl known_nil))), H, rfl⟩
    · skip
      refine WO.by rfl rfl rfl ?_
      refine WO.by rfl rfl rfl ?_
      refine WO.by rfl rfl rfl ?_
      refine WO.by rfl rfl rfl ?_
      refine WO.by rfl rfl rfl ?_
      refine WO.by rfl rfl rfl ?_
      refine WO.by0 rfl rfl ?_
      refine WO.by0 rfl rfl ?_
      refine WO.by0 rfl rfl ?_
      refine WO.by0 rfl rfl ?_
      refine WO.by0 rfl rfl ?_
      refine WO.by0 rfl rfl ?_
      refine WO.by0 rfl rfl ?_
      refine WO.by0 rfl rfl ?_
      refine WO.by0 rfl rfl ?_
      refine WO.by0 rfl rfl ?_
      refine WO.by0 rfl rfl ?_
      refine WO.by0 rfl rfl ?_
      refine WO.by0 rfl rfl ?_
      refine WO.by0 rfl rfl ?_
      refine WO.by0 rfl rfl ?_
      refine WO.by0 rfl rfl ?_
      refine WO.by0 rfl rfl ?_
      refine WO.by0 rfl rfl ?_
      refine WO.by0 rfl rfl ?_
      refine WO.by rfl rfl rfl ?_
      refine WO.step (v := (.bool true)) rfl (nz rfl rfl) ?_
      refine WO.nil ?_
      exact ⟨(known_cons rfl (known_cons rfl (known_cons rfl known_nil))), H, rfl⟩
  · rintro σ S e ⟨hk, H, rfl⟩
    refine WO.of_known hk ?_
    refine WO.step (v := (.bool ((decide (a0.Time < a1.Time)) || ((a0.Time == a1.Time) && ((decide (a0.Seq < a1.Seq)) || ((a0.Seq == a1.Seq) && (decide (a0.Rep < a1.Rep)))))))) rfl (nz rfl rfl) ?_
    refine WO.nil ?_
    rcases iteS h with ⟨hc94, h⟩ | ⟨hc94, h⟩
    · refine WC.condT rfl hc94 ?_
      refine WC.seqR ?_
      refine WO.step (v := (.int .i64 (-1))) rfl (nz rfl rfl) ?_
      refine WO.nil ?_
      refine WC.ret ?_
      refine KX.block_r ?_
      refine KX.seq_r ?_
      obtain rfl := Option.some.inj h
      refine KB.ret (vs := [(.int .i64 (-1))]) (res_tmp rfl res_nil) (fl_cons' rfl rfl) ?_
      exact rfl
    · refine WC.condF rfl hc94 ?_
      refine WC.seqR ?_
      refine WO.step (v := (.agg [(.int .i64 a0.Time), (.int .i64 a0.Seq), (.int .i64 a0.Rep)])) rfl (nz rfl (stp_load rfl (H.get 1 rfl) rfl)) ?_
      refine WO.step (v := (.agg [(.int .i64 a1.Time), (.int .i64 a1.Seq), (.int .i64 a1.Rep)])) rfl (nz rfl (stp_load rfl (H.get 0 rfl) rfl)) ?_
      refine WO.step (v := (.bool ((a0.Time == a1.Time) && ((a0.Seq == a1.Seq) && ((a0.Rep == a1.Rep) && true))))) rfl (nz rfl (stp_eq rfl rfl rfl rfl rfl)) ?_
      refine WO.step (v := (.bool ((a0.Time == a1.Time) && ((a0.Seq == a1.Seq) && ((a0.Rep == a1.Rep) && true))))) rfl (nz rfl rfl) ?_
      refine WO.nil ?_
      rcases iteS h with ⟨hc93, h⟩ | ⟨hc93, h⟩
      · refine WC.condT rfl hc93 ?_
        refine WC.seqR ?_
        refine WO.step (v := (.int .i64 0)) rfl (nz rfl rfl) ?_
        refine WO.nil ?_
        refine WC.ret ?_
        refine KX.block_r ?_
        refine KX.seq_r ?_
        obtain rfl := Option.some.inj h
        refine KB.ret (vs := [(.int .i64 0)]) (res_tmp rfl res_nil) (fl_cons' rfl rfl) ?_
        exact rfl
      · refine WC.condF rfl hc93 ?_
        refine WC.skip ?_
        refine KX.block_n ?_
        refine KX.seq_n ?_
        refine WC.seqR ?_
        refine WO.step (v := (.int .i64 1)) rfl (nz rfl rfl) ?_
        refine WO.nil ?_
        refine WC.ret ?_
        obtain rfl := Option.some.inj h
        refine KB.ret (vs := [(.int .i64 1)]) (res_tmp rfl res_nil) (fl_cons' rfl rfl) ?_
        exact rfl
-- 49 prefect/prefectref10.Greater
/-- prefect/prefectref10.Greater -/
def F49 (k : Nat) (a0 : Api_CSN) (a1 : Api_CSN) : Option Api_CSN :=
  Option.bind (F51 k a0 a1) fun y4 =>
  if decide (y4 ≥ 0) then
  some a0
  else
  some a1
theorem s49 : ∀ k : Nat, ∀ {a0 : Api_CSN} {a1 : Api_CSN} {r : Api_CSN}, F49 k a0 a1 = some r → ∀ {vs : List PV}, vs.map PV.strip = [(.agg [(.int .i64 a0.Time), (.int .i64 a0.Seq), (.int .i64 a0.Rep)]), (.agg [(.int .i64 a1.Time), (.int .i64 a1.Seq), (.int .i64 a1.Rep)])] → ∀ S : List SObj, evw env 49 vs S = some ((.agg [(.int .i64 r.Time), (.int .i64 r.Seq), (.int .i64 r.Rep)]), S, false) := by
  intro k a0 a1 r h vs ha S
  unfold F49 at h
  refine evw_pureW (pf := fn49) rfl rfl ha (Nat.le_of_ble_eq_true rfl) rfl rfl ?_
  refine WB.of (pf := fn49) rfl ?_
  have H := Hp.start []
  refine WC.seqR ?_
  refine WO.box' rfl rfl rfl rfl rfl H ?_
  intro i1 S hi1 H
  refine WO.box' rfl rfl rfl rfl rfl H ?_
  intro i2 S hi2 H
  refine WO.alloc' (ti := ty50) rfl rfl rfl rfl H ?_
  intro i3 S hi3 H
  refine WO.nil ?_
  refine WC.seq ?_
  refine WC.seqR ?_
  refine WO.step (v := (.agg [(.int .i64 a0.Time), (.int .i64 a0.Seq), (.int .i64 a0.Rep)])) rfl (nz rfl (stp_load rfl (H.get 2 rfl) rfl)) ?_
  refine WO.step (v := (.agg [(.int .i64 a1.Time), (.int .i64 a1.Seq), (.int .i64 a1.Rep)])) rfl (nz rfl (stp_load rfl (H.get 1 rfl) rfl)) ?_
  obtain ⟨y4, hy4, h⟩ := bindS h
  refine WO.step (v := (.int .i64 y4)) rfl (nz rfl (stp_call (vs := [(.agg [(.int .i64 a0.Time), (.int .i64 a0.Seq), (.int .i64 a0.Rep)]), (.agg [(.int .i64 a1.Time), (.int .i64 a1.Seq), (.int .i64 a1.Rep)])]) rfl rfl (s51 _ hy4 rfl _))) ?_
  refine WO.step (v := (.bool (decide (y4 ≥ 0)))) rfl (nz rfl rfl) ?_
  refine WO.nil ?_
  rcases iteS h with ⟨hc6, h⟩ | ⟨hc6, h⟩
  · refine WC.condT rfl hc6 ?_
    refine WC.seqR ?_
    refine WO.step (v := (.agg [(.int .i64 a0.Time), (.int .i64 a0.Seq), (.int .i64 a0.Rep)])) rfl (nz rfl (stp_load rfl (H.get 2 rfl) rfl)) ?_
    refine WO.store 0 rfl rfl H rfl rfl rfl rfl rfl rfl rfl (Nat.le_of_ble_eq_true rfl) rfl (own_e hi3) ?_
    intro S H
    replace H : Hp [] [] _ [(i3, .cells [(.int .i64 a0.Time), (.int .i64 a0.Seq), (.int .i64 a0.Rep)]), (i2, .cells [(.int .i64 a1.Time), (.int .i64 a1.Seq), (.int .i64 a1.Rep)]), (i1, .cells [(.int .i64 a0.Time), (.int .i64 a0.Seq), (.int .i64 a0.Rep)])] [] [] := H
    refine WO.nil ?_
    refine WC.ret ?_
    refine KX.seq_r ?_
    obtain rfl := Option.some.inj h
    refine KB.ret (vs := [(.agg [(.int .i64 a0.Time), (.int .i64 a0.Seq), (.int .i64 a0.Rep)])]) (res_cell rfl (H.get 0 rfl) rfl res_nil) (fl_cons' rfl rfl) ?_
    exact rfl
  · refine WC.condF rfl hc6 ?_
    refine WC.skip ?_
    refine KX.seq_n ?_
    refine WC.seqR ?_
    refine WO.step (v := (.agg [(.int .i64 a1.Time), (.int .i64 a1.Seq), (.int .i64 a1.Rep)])) rfl (nz rfl (stp_load rfl (H.get 1 rfl) rfl)) ?_
    refine WO.store 0 rfl rfl H rfl rfl rfl rfl rfl rfl rfl (Nat.le_of_ble_eq_true rfl) rfl (own_e hi3) ?_
    intro S H
    replace H : Hp [] [] _ [(i3, .cells [(.int .i64 a1.Time), (.int .i64 a1.Seq), (.int .i64 a1.Rep)]), (i2, .cells [(.int .i64 a1.Time), (.int .i64 a1.Seq), (.int .i64 a1.Rep)]), (i1, .cells [(.int .i64 a0.Time), (.int .i64 a0.Seq), (.int .i64 a0.Rep)])] [] [] := H
    refine WO.nil ?_
    refine WC.ret ?_
    obtain rfl := Option.some.inj h
    refine KB.ret (vs := [(.agg [(.int .i64 a1.Time), (.int .i64 a1.Seq), (.int .i64 a1.Rep)])]) (res_cell rfl (H.get 0 rfl) rfl res_nil) (fl_cons' rfl rfl) ?_
    exact rfl
-- 25 prefect/prefectref10.Raise
/-- prefect/prefectref10.Raise -/
def F25 (k : Nat) (a0 : Sl Api_CSN) (a1 : Api_CSN) : Option (Sl Api_CSN) :=
  Option.bind (F37 k a0) fun y2 =>
  Option.bind (F45 k a1) fun y4 =>
  Option.bind (if y4 && (decide (a1.Rep < (Sl.len y2))) then
  Option.bind (Sl.at? y2 a1.Rep) fun y22 =>
  Option.bind (F49 k y22 a1) fun y24 =>
  Option.bind (Sl.at? y2 a1.Rep) fun y25 =>
  some (Sl.set y2 a1.Rep y24)
  else
  some y2) fun y20 =>
  some y20
theorem s25 : ∀ k : Nat, ∀ {a0 : Sl Api_CSN} {a1 : Api_CSN} {r : (Sl Api_CSN)}, F25 k a0 a1 = some r → ∀ {vs : List PV}, vs.map PV.strip = [(encSl e_Api_CSN a0), (.agg [(.int .i64 a1.Time), (.int .i64 a1.Seq), (.int .i64 a1.Rep)])] → ∀ S : List SObj, evw env 25 vs S = some ((encSl e_Api_CSN r), S, false) := by
  intro k a0 a1 r h vs ha S
  unfold F25 at h
  refine evw_pureW (pf := fn25) rfl rfl ha (Nat.le_of_ble_eq_true rfl) (by simp [PV.clean, cleanL, clean_encSl clean_Api_CSN]) (by simp [PV.clean, cleanL, clean_encSl clean_Api_CSN]) ?_
  refine WB.of (pf := fn25) rfl ?_
  have H := Hp.start []
  refine WC.seqR ?_
  refine WO.box' rfl rfl rfl rfl rfl H ?_
  intro i1 S hi1 H
  refine WO.step (v := .nils) rfl (nz rfl rfl) ?_
  refine WO.nil ?_
  refine WC.seqR ?_
  refine WO.step (v := (encSl e_Api_CSN a0)) rfl (nz rfl rfl) ?_
  obtain ⟨y2, hy2, h⟩ := bindS h
  refine WO.ex rfl (nzx (fz_tmp' (isSl_enc _ _).frz rfl) (stp_callW (vs := [(encSl e_Api_CSN a0)]) rfl rfl H (s37 _ hy2 (by simp only [strip_enc, List.map_cons, List.map_nil, tupled]) _))) ?_
  rintro v3 S ⟨hv3, H⟩
  replace H : Hp [] [] _ [(i1, .cells [(.int .i64 a1.Time), (.int .i64 a1.Seq), (.int .i64 a1.Rep)])] [] [(v3, rowO e_Api_CSN 3 false y2)] := H
  refine WO.step (v := v3) rfl (nz rfl rfl) ?_
  refine WO.nil ?_
  refine WC.seq ?_
  refine WC.seqR ?_
  refine WO.step (v := (.agg [(.int .i64 a1.Time), (.int .i64 a1.Seq), (.int .i64 a1.Rep)])) rfl (nz rfl (stp_load rfl (H.get 0 rfl) rfl)) ?_
  obtain ⟨y4, hy4, h⟩ := bindS h
  refine WO.step (v := (.bool y4)) rfl (nz rfl (stp_call (vs := [(.agg [(.int .i64 a1.Time), (.int .i64 a1.Seq), (.int .i64 a1.Rep)])]) rfl rfl (s45 _ hy4 rfl _))) ?_
  refine WO.step (v := (.bool y4)) rfl (nz rfl rfl) ?_
  refine WO.split 6 (fun σ' S' e' => Known ([(3, (.ptr i1 0)), (5, v3), (16, (.bool (y4 && (decide (a1.Rep < (Sl.len y2))))))]) σ' ∧ Hp [] [] S' [(i1, .cells [(.int .i64 a1.Time), (.int .i64 a1.Seq), (.int .i64 a1.Rep)])] [] [(v3, rowO e_Api_CSN 3 false y2)] ∧ e' = false) ?_ ?_
  · cases hc5 : y4
    · skip
      refine WO.by rfl rfl rfl ?_
      refine WO.by rfl rfl rfl ?_
      refine WO.by rfl rfl rfl ?_
      refine WO.by rfl rfl rfl ?_
      refine WO.by rfl rfl rfl ?_
      refine WO.step (v := (.bool false)) rfl (nz rfl rfl) ?_
      refine WO.nil ?_
      exact ⟨(known_cons rfl (known_cons rfl (known_cons rfl known_nil))), H, rfl⟩
    · skip
      refine WO.go0 rfl rfl ?_
      refine WO.step (v := (.ptr i1 2)) rfl (nz rfl rfl) ?_
      refine WO.go0 rfl rfl ?_
      refine WO.step (v := (.int .i64 a1.Rep)) rfl (nz rfl (stp_load rfl (H.get 0 rfl) rfl)) ?_
      refine WO.go0 rfl rfl ?_
      refine WO.step (v := v3) rfl (nz rfl rfl) ?_
      refine WO.go0 rfl rfl ?_
      refine WO.step (v := (.int .i64 (Sl.len y2))) rfl (nz rfl (stp_lenW rfl hv3 rfl)) ?_
      refine WO.go0 rfl rfl ?_
      refine WO.step (v := (.bool (decide (a1.Rep < (Sl.len y2))))) rfl (nz rfl rfl) ?_
      refine WO.step (v := (.bool (decide (a1.Rep < (Sl.len y2))))) rfl (nz rfl rfl) ?_
      refine WO.nil ?_
      exact ⟨(known_cons rfl (known_cons rfl (known_cons rfl known_nil))), H, rfl⟩
  · rintro σ S e ⟨hk, H, rfl⟩
    refine WO.of_known hk ?_
    refine WO.nil ?_
    obtain ⟨y20, hy20, hOy20⟩ := bindS h
    refine WC.join (fun σ' S' e' => IsW y20 v3 ∧ Known ([(5, v3)]) σ' ∧ Hp [] [] S' [(i1, .cells [(.int .i64 a1.Time), (.int .i64 a1.Seq), (.int .i64 a1.Rep)])] [] [(v3, rowO e_Api_CSN 3 false y20)] ∧ e' = false) ?_ ?_
    · replace h := hy20
      rcases iteS h with ⟨hc28, h⟩ | ⟨hc28, h⟩
      · refine WC.condT rfl hc28 ?_
        refine WC.draw ?_
        refine WH.step (v := v3) rfl (nz rfl rfl) rfl rfl ?_
        refine WH.step (v := (.ptr i1 2)) rfl (nz rfl rfl) rfl rfl ?_
        refine WH.step (v := (.int .i64 a1.Rep)) rfl (nz rfl (stp_load rfl (H.get 0 rfl) rfl)) rfl rfl ?_
        refine WH.step (v := v3) rfl (nz rfl rfl) rfl rfl ?_
        refine WH.step (v := (.ptr i1 2)) rfl (nz rfl rfl) rfl rfl ?_
        refine WH.step (v := (.int .i64 a1.Rep)) rfl (nz rfl (stp_load rfl (H.get 0 rfl) rfl)) rfl rfl ?_
        obtain ⟨y22, hy22, h⟩ := bindS h
        obtain ⟨i23, hi23⟩ := IsW.id hv3 hy22
        refine WH.step (v := (.ptr i23 (Int.toNat a1.Rep * 3 + 0))) rfl (nz rfl (stp_idxW (sz := 3) rfl hv3 rfl rfl rfl hy22 hi23)) rfl rfl ?_
        refine WH.step (v := (.agg [(.int .i64 y22.Time), (.int .i64 y22.Seq), (.int .i64 y22.Rep)])) rfl (nz rfl (stp_loadW rfl (H.getW 0 rfl hi23) hy22 (Nat.le_of_ble_eq_true rfl) rfl)) rfl rfl ?_
        refine WH.step (v := (.agg [(.int .i64 a1.Time), (.int .i64 a1.Seq), (.int .i64 a1.Rep)])) rfl (nz rfl (stp_load rfl (H.get 0 rfl) rfl)) rfl rfl ?_
        obtain ⟨y24, hy24, h⟩ := bindS h
        refine WH.step (v := (.agg [(.int .i64 y24.Time), (.int .i64 y24.Seq), (.int .i64 y24.Rep)])) rfl (nz rfl (stp_call (vs := [(.agg [(.int .i64 y22.Time), (.int .i64 y22.Seq), (.int .i64 y22.Rep)]), (.agg [(.int .i64 a1.Time), (.int .i64 a1.Seq), (.int .i64 a1.Rep)])]) rfl rfl (s49 _ hy24 rfl _))) rfl rfl ?_
        refine WH.nil ?_
        obtain ⟨y25, hy25, h⟩ := bindS h
        obtain ⟨i26, hi26⟩ := IsW.id hv3 hy25
        refine WO.step (v := (.ptr i26 (Int.toNat a1.Rep * 3 + 0))) rfl (nz rfl (stp_idxW (sz := 3) rfl hv3 rfl rfl rfl hy25 hi26)) ?_
        refine WO.storeW 0 (f := e_Api_CSN) (u := (.agg [(.int .i64 y24.Time), (.int .i64 y24.Seq), (.int .i64 y24.Rep)])) (y' := y24) (xc := [(.int .i64 y24.Time), (.int .i64 y24.Seq), (.int .i64 y24.Rep)]) (e' := false) rfl rfl H rfl hi26 rfl rfl hy25 rfl rfl rfl rfl (Nat.le_of_ble_eq_true rfl) (Nat.le_of_ble_eq_true rfl) rfl (clean_e (by simp [PV.clean, cleanL])) ?_
        intro S H
        have hw27 := IsW.set hv3 a1.Rep y24
        replace H : Hp [] [] _ [(i1, .cells [(.int .i64 a1.Time), (.int .i64 a1.Seq), (.int .i64 a1.Rep)])] [] [(v3, rowO e_Api_CSN 3 false (Sl.set y2 a1.Rep y24))] := H
        refine WO.nil ?_
        refine KX.seq_n ?_
        obtain rfl := Option.some.inj h
        exact ⟨hw27, (known_cons rfl known_nil), (H.sub (.cons_cons _ .slnil) .slnil (.cons_cons _ .slnil)), rfl⟩
      · refine WC.condF rfl hc28 ?_
        refine WC.skip ?_
        refine KX.seq_n ?_
        obtain rfl := Option.some.inj h
        exact ⟨hv3, (known_cons rfl known_nil), (H.sub (.cons_cons _ .slnil) .slnil (.cons_cons _ .slnil)), rfl⟩
    · rintro σ S e ⟨hw21, hk, H, rfl⟩
      replace h := hOy20
      refine KX.of_known hk ?_
      refine KX.seq_n ?_
      refine WC.seqR ?_
      refine WO.step (v := v3) rfl (nz rfl rfl) ?_
      refine WO.step (v := v3) rfl (nz rfl rfl) ?_
      refine WO.nil ?_
      refine WC.ret ?_
      obtain rfl := Option.some.inj h
      obtain ⟨S, q29, H⟩ := IsW.frz (f := e_Api_CSN) H 0 rfl hw21
      replace H : Hp [] [] _ [(i1, .cells [(.int .i64 a1.Time), (.int .i64 a1.Seq), (.int .i64 a1.Rep)])] [] [(v3, rowO e_Api_CSN 3 true y20)] := H
      refine KB.retZ (vs := [v3]) (res_tmp rfl res_nil) (fl_W q29 rfl) ?_
      exact (by simp only [st_tup, List.map_cons, List.map_nil, tupled, strip_enc])
-- 27 prefect/prefectref10.Join
def F27_L0 (k : Nat) (a195 : Sl Api_CSN) : Nat → Int → (Sl Api_CSN) → Option (Int × (Sl Api_CSN))
  | 0, _, _ => none
  | n + 1, x198, w197 =>
    if decide (x198 < (Sl.len a195)) then
    Option.bind (if decide (x198 < (Sl.len w197)) then
    Option.bind (Sl.at? w197 x198) fun y274 =>
    Option.bind (Sl.at? a195 x198) fun y276 =>
    Option.bind (F49 k y274 y276) fun y278 =>
    Option.bind (Sl.at? w197 x198) fun y279 =>
    some (Sl.set w197 x198 y278)
    else
    Option.bind (Sl.at? a195 x198) fun y282 =>
    Option.bind (Sl.app? 24 w197 (Sl.l (some [y282]))) fun z285 =>
    some z285) fun y272 =>
    F27_L0 k a195 n (ad .i64 x198 1) y272
    else
    some (x198, w197)
/-- prefect/prefectref10.Join -/
def F27 (k : Nat) (a0 : Sl Api_CSN) (a1 : Sl Api_CSN) : Option (Sl Api_CSN) :=
  Option.bind (F37 k a0) fun y1 =>
  Option.bind (F37 k a1) fun y3 =>
  Option.bind (F27_L0 k y3 k 0 y1) fun y290 =>
  some y290.2
theorem l27_L0 {k : Nat} {a195 : Sl Api_CSN} {S0 : List SObj} {R : List Nat} {K : KX} {v194 : PV} (hv194 : IsW a195 v194)  {o : (Int × (Sl Api_CSN))}
    (hbrk : ∀ {σ' : Nat → PV} {S' : List SObj}, ∀ (v289 : PV) (_ : IsW o.2 v289), Known [(5, v289), (7, (.int .i64 o.1))] σ' → Hp S0 R S' [] [] [(v194, rowO e_Api_CSN 3 false a195), (v289, rowO e_Api_CSN 3 false o.2)] → K (.exit 0) σ' S' false) :
    ∀ {n : Nat} {x198 : Int} {w197 : Sl Api_CSN}, F27_L0 k a195 n x198 w197 = some o → ∀ {σ : Nat → PV} {S : List SObj}, ∀ (v196 : PV) (_ : IsW w197 v196), Known [(5, v196), (6, v194), (7, (.int .i64 x198))] σ → Hp S0 R S [] [] [(v194, rowO e_Api_CSN 3 false a195), (v196, rowO e_Api_CSN 3 false w197)] → WC env ⟨42, S0.length⟩ (.loop pc27L0) σ S false K := by
  intro n
  induction n with
  | zero => intro _ _ h; cases h
  | succ n ih =>
    intro x198 w197 h σ S v196 hv196 hk H
    rw [F27_L0] at h
    refine WC.loop ?_
    refine WC.of_known hk ?_
    refine WC.seq ?_
    refine WC.seqR ?_
    refine WO.step (v := (.int .i64 x198)) rfl (nz rfl rfl) ?_
    refine WO.step (v := v194) rfl (nz rfl rfl) ?_
    refine WO.step (v := (.int .i64 (Sl.len a195))) rfl (nz rfl (stp_lenW rfl hv194 rfl)) ?_
    refine WO.step (v := (.bool (decide (x198 < (Sl.len a195))))) rfl (nz rfl rfl) ?_
    refine WO.nil ?_
    rcases iteS h with ⟨hc288, h⟩ | ⟨hc288, h⟩
    · refine WC.condT rfl hc288 ?_
      refine WC.skip ?_
      refine KX.seq_n ?_
      refine WC.seq ?_
      refine WC.block ?_
      refine WC.seqR ?_
      refine WO.step (v := (.int .i64 x198)) rfl (nz rfl rfl) ?_
      refine WO.step (v := v196) rfl (nz rfl rfl) ?_
      refine WO.step (v := (.int .i64 (Sl.len w197))) rfl (nz rfl (stp_lenW rfl hv196 rfl)) ?_
      refine WO.step (v := (.bool (decide (x198 < (Sl.len w197))))) rfl (nz rfl rfl) ?_
      refine WO.nil ?_
      obtain ⟨y272, hy272, hOy272⟩ := bindS h
      refine WC.join (fun σ' S' e' => ∃ v273, IsW y272 v273 ∧ Known ([(5, v273), (6, v194), (7, (.int .i64 x198))]) σ' ∧ Hp S0 R S' [] [] [(v194, rowO e_Api_CSN 3 false a195), (v273, rowO e_Api_CSN 3 false y272)] ∧ e' = false) ?_ ?_
      · replace h := hy272
        rcases iteS h with ⟨hc287, h⟩ | ⟨hc287, h⟩
        · refine WC.condT rfl hc287 ?_
          refine WC.draw ?_
          refine WH.step (v := v196) rfl (nz rfl rfl) rfl rfl ?_
          refine WH.step (v := (.int .i64 x198)) rfl (nz rfl rfl) rfl rfl ?_
          refine WH.step (v := v196) rfl (nz rfl rfl) rfl rfl ?_
          refine WH.step (v := (.int .i64 x198)) rfl (nz rfl rfl) rfl rfl ?_
          obtain ⟨y274, hy274, h⟩ := bindS h
          obtain ⟨i275, hi275⟩ := IsW.id hv196 hy274
          refine WH.step (v := (.ptr i275 (Int.toNat x198 * 3 + 0))) rfl (nz rfl (stp_idxW (sz := 3) rfl hv196 rfl rfl rfl hy274 hi275)) rfl rfl ?_
          refine WH.step (v := (.agg [(.int .i64 y274.Time), (.int .i64 y274.Seq), (.int .i64 y274.Rep)])) rfl (nz rfl (stp_loadW rfl (H.getW 1 rfl hi275) hy274 (Nat.le_of_ble_eq_true rfl) rfl)) rfl rfl ?_
          refine WH.step (v := v194) rfl (nz rfl rfl) rfl rfl ?_
          refine WH.step (v := (.int .i64 x198)) rfl (nz rfl rfl) rfl rfl ?_
          obtain ⟨y276, hy276, h⟩ := bindS h
          obtain ⟨i277, hi277⟩ := IsW.id hv194 hy276
          refine WH.step (v := (.ptr i277 (Int.toNat x198 * 3 + 0))) rfl (nz rfl (stp_idxW (sz := 3) rfl hv194 rfl rfl rfl hy276 hi277)) rfl rfl ?_
          refine WH.step (v := (.agg [(.int .i64 y276.Time), (.int .i64 y276.Seq), (.int .i64 y276.Rep)])) rfl (nz rfl (stp_loadW rfl (H.getW 0 rfl hi277) hy276 (Nat.le_of_ble_eq_true rfl) rfl)) rfl rfl ?_
          obtain ⟨y278, hy278, h⟩ := bindS h
          refine WH.step (v := (.agg [(.int .i64 y278.Time), (.int .i64 y278.Seq), (.int .i64 y278.Rep)])) rfl (nz rfl (stp_call (vs := [(.agg [(.int .i64 y274.Time), (.int .i64 y274.Seq), (.int .i64 y274.Rep)]), (.agg [(.int .i64 y276.Time), (.int .i64 y276.Seq), (.int .i64 y276.Rep)])]) rfl rfl (s49 _ hy278 rfl _))) rfl rfl ?_
          refine WH.nil ?_
          obtain ⟨y279, hy279, h⟩ := bindS h
          obtain ⟨i280, hi280⟩ := IsW.id hv196 hy279
          refine WO.step (v := (.ptr i280 (Int.toNat x198 * 3 + 0))) rfl (nz rfl (stp_idxW (sz := 3) rfl hv196 rfl rfl rfl hy279 hi280)) ?_
          refine WO.storeW 1 (f := e_Api_CSN) (u := (.agg [(.int .i64 y278.Time), (.int .i64 y278.Seq), (.int .i64 y278.Rep)])) (y' := y278) (xc := [(.int .i64 y278.Time), (.int .i64 y278.Seq), (.int .i64 y278.Rep)]) (e' := false) rfl rfl H rfl hi280 rfl rfl hy279 rfl rfl rfl rfl (Nat.le_of_ble_eq_true rfl) (Nat.le_of_ble_eq_true rfl) rfl (clean_e (by simp [PV.clean, cleanL])) ?_
          intro S H
          have hw281 := IsW.set hv196 x198 y278
          replace H : Hp S0 R _ [] [] [(v194, rowO e_Api_CSN 3 false a195), (v196, rowO e_Api_CSN 3 false (Sl.set w197 x198 y278))] := H
          refine WO.nil ?_
          refine KX.seq_n ?_
          obtain rfl := Option.some.inj h
          exact ⟨v196, hw281, (known_cons rfl (known_cons rfl (known_cons rfl known_nil))), (H.sub .slnil .slnil (.cons_cons _ (.cons_cons _ .slnil))), rfl⟩
        · refine WC.condF rfl hc287 ?_
          refine WC.region ?_
          refine WO.step (v := v196) rfl (nz rfl rfl) ?_
          refine WO.step (v := v194) rfl (nz rfl rfl) ?_
          refine WO.step (v := (.int .i64 x198)) rfl (nz rfl rfl) ?_
          obtain ⟨y282, hy282, h⟩ := bindS h
          obtain ⟨i283, hi283⟩ := IsW.id hv194 hy282
          refine WO.step (v := (.ptr i283 (Int.toNat x198 * 3 + 0))) rfl (nz rfl (stp_idxW (sz := 3) rfl hv194 rfl rfl rfl hy282 hi283)) ?_
          refine WO.step (v := (.agg [(.int .i64 y282.Time), (.int .i64 y282.Seq), (.int .i64 y282.Rep)])) rfl (nz rfl (stp_loadW rfl (H.getW 0 rfl hi283) hy282 (Nat.le_of_ble_eq_true rfl) rfl)) ?_
          refine WO.step rfl (nz rfl (stp_buildSlice (ys := [y282]) (f := e_Api_CSN) (parts := [(0, (.agg [(.int .i64 y282.Time), (.int .i64 y282.Seq), (.int .i64 y282.Rep)]))]) rfl rfl rfl rfl rfl rfl (fc ⟨rfl, rfl⟩ (fun p hp => nomatch hp)) rfl)) ?_
          have hv284 : IsSl e_Api_CSN (some [y282]) _ := ⟨.full, rfl⟩
          obtain ⟨z285, hz285, h⟩ := bindS h
          refine WO.ex rfl (bzn (fz_tmp' hv284.frz rfl) (born_app (f := e_Api_CSN) (ei := ty50) H 1 rfl rfl hv196 rfl hv284 rfl rfl rfl rfl (fun a => (e_Api_CSN_one a).2.1) hz285)) ?_
          rintro v286 S ⟨hv286, H⟩
          replace H : Hp S0 R _ [] [] [(v194, rowO e_Api_CSN 3 false a195), (v286, rowO e_Api_CSN 3 false z285)] := H
          refine WO.step (v := v286) rfl (nz rfl rfl) ?_
          refine WO.nil ?_
          refine KX.seq_n ?_
          obtain rfl := Option.some.inj h
          exact ⟨v286, hv286, (known_cons rfl (known_cons rfl (known_cons rfl known_nil))), (H.sub .slnil .slnil (.cons_cons _ (.cons_cons _ .slnil))), rfl⟩
      · rintro σ S e ⟨v273, hv273, hk, H, rfl⟩
        replace h := hOy272
        refine KX.of_known hk ?_
        refine KX.block_n ?_
        refine KX.seq_n ?_
        refine WC.region ?_
        refine WO.step (v := (.int .i64 x198)) rfl (nz rfl rfl) ?_
        refine WO.step (v := (.int .i64 (ad .i64 x198 1))) rfl (nz rfl rfl) ?_
        refine WO.step (v := (.int .i64 (ad .i64 x198 1))) rfl (nz rfl rfl) ?_
        refine WO.nil ?_
        refine KX.seq_n ?_
        exact ih h v273 (hv273) (known_cons rfl (known_cons rfl (known_cons rfl known_nil))) (H.sub .slnil .slnil (.cons_cons _ (.cons_cons _ .slnil)))
    · refine WC.condF rfl hc288 ?_
      refine WC.exit ?_
      refine KX.seq_x ?_
      refine KX.seq_x ?_
      obtain rfl := Option.some.inj h
      exact hbrk v196 (hv196) (known_cons rfl (known_cons rfl known_nil)) (H.sub .slnil .slnil (.cons_cons _ (.cons_cons _ .slnil)))
theorem s27 : ∀ k : Nat, ∀ {a0 : Sl Api_CSN} {a1 : Sl Api_CSN} {r : (Sl Api_CSN)}, F27 k a0 a1 = some r → ∀ {vs : List PV}, vs.map PV.strip = [(encSl e_Api_CSN a0), (encSl e_Api_CSN a1)] → ∀ S : List SObj, evw env 27 vs S = some ((encSl e_Api_CSN r), S, false) := by
  intro k a0 a1 r h vs ha S
  unfold F27 at h
  refine evw_pureW (pf := fn27) rfl rfl ha (Nat.le_of_ble_eq_true rfl) (by simp [PV.clean, cleanL, clean_encSl clean_Api_CSN]) (by simp [PV.clean, cleanL, clean_encSl clean_Api_CSN]) ?_
  refine WB.of (pf := fn27) rfl ?_
  have H := Hp.start []
  refine WC.seqR ?_
  refine WO.step (v := .nils) rfl (nz rfl rfl) ?_
  refine WO.nil ?_
  refine WC.seqR ?_
  refine WO.step (v := (encSl e_Api_CSN a0)) rfl (nz rfl rfl) ?_
  obtain ⟨y1, hy1, h⟩ := bindS h
  refine WO.ex rfl (nzx (fz_tmp' (isSl_enc _ _).frz rfl) (stp_callW (vs := [(encSl e_Api_CSN a0)]) rfl rfl H (s37 _ hy1 (by simp only [strip_enc, List.map_cons, List.map_nil, tupled]) _))) ?_
  rintro v2 S ⟨hv2, H⟩
  replace H : Hp [] [] _ [] [] [(v2, rowO e_Api_CSN 3 false y1)] := H
  refine WO.step (v := (encSl e_Api_CSN a1)) rfl (nz rfl rfl) ?_
  obtain ⟨y3, hy3, h⟩ := bindS h
  refine WO.ex rfl (nzx (fz_tmp' (isSl_enc _ _).frz rfl) (stp_callW (vs := [(encSl e_Api_CSN a1)]) rfl rfl H (s37 _ hy3 (by simp only [strip_enc, List.map_cons, List.map_nil, tupled]) _))) ?_
  rintro v4 S ⟨hv4, H⟩
  replace H : Hp [] [] _ [] [] [(v4, rowO e_Api_CSN 3 false y3), (v2, rowO e_Api_CSN 3 false y1)] := H
  refine WO.step (v := v2) rfl (nz rfl rfl) ?_
  refine WO.step (v := v4) rfl (nz rfl rfl) ?_
  refine WO.nil ?_
  refine WC.seq ?_
  refine WC.seqR ?_
  refine WO.step (v := (.int .i64 0)) rfl (nz rfl rfl) ?_
  refine WO.nil ?_
  obtain ⟨y290, hy290, hOy290⟩ := bindS h
  refine WC.block ?_
  refine l27_L0 (hv4) ?_ hy290 v2 (hv2) (known_cons rfl (known_cons rfl (known_cons rfl known_nil))) (H.sub .slnil .slnil (.cons_cons _ (.cons_cons _ .slnil)))
  · intro σ S v291 hv291 hk H; replace h := hOy290
    refine KX.of_known hk ?_
    refine KX.block_x ?_
    refine KX.seq_n ?_
    refine WC.seqR ?_
    refine WO.step (v := v291) rfl (nz rfl rfl) ?_
    refine WO.step (v := v291) rfl (nz rfl rfl) ?_
    refine WO.nil ?_
    refine WC.ret ?_
    obtain rfl := Option.some.inj h
    obtain ⟨S, q292, H⟩ := IsW.frz (f := e_Api_CSN) H 1 rfl hv291
    replace H : Hp [] [] _ [] [] [(v4, rowO e_Api_CSN 3 false y3), (v291, rowO e_Api_CSN 3 true y290.2)] := H
    refine KB.retZ (vs := [v291]) (res_tmp rfl res_nil) (fl_W q292 rfl) ?_
    exact (by simp only [st_tup, List.map_cons, List.map_nil, tupled, strip_enc])
-- 29 prefect/prefectref10.Meet
def F29_L0 (k : Nat) (a197 : Sl Api_CSN) (a199 : Sl Api_CSN) : Nat → (Sl Api_CSN) → Int → Option ((Sl Api_CSN) × Int)
  | 0, _, _ => none
  | n + 1, x200, x202 =>
    if decide (x202 < (imin (Sl.len a199) (Sl.len a197))) then
    Option.bind (Sl.at? a199 x202) fun y244 =>
    Option.bind (Sl.at? a197 x202) fun y246 =>
    Option.bind (F51 k y244 y246) fun y248 =>
    Option.bind (if decide (y248 ≤ 0) then
    Option.bind (Sl.at? a199 x202) fun y273 =>
    Option.bind (Sl.app? 24 x200 (Sl.l (some [y273]))) fun z276 =>
    some z276
    else
    Option.bind (Sl.at? a197 x202) fun y278 =>
    Option.bind (Sl.app? 24 x200 (Sl.l (some [y278]))) fun z281 =>
    some z281) fun y271 =>
    F29_L0 k a197 a199 n y271 (ad .i64 x202 1)
    else
    some (x200, x202)
/-- prefect/prefectref10.Meet -/
def F29 (k : Nat) (a0 : Sl Api_CSN) (a1 : Sl Api_CSN) : Option (Sl Api_CSN) :=
  Option.bind (F37 k a0) fun y1 =>
  Option.bind (F37 k a1) fun y3 =>
  Option.bind (F29_L0 k y3 y1 k none 0) fun y286 =>
  some y286.1
theorem l29_L0 {k : Nat} {a197 : Sl Api_CSN} {a199 : Sl Api_CSN} {S0 : List SObj} {R : List Nat} {K : KX} {v196 : PV} (hv196 : IsW a197 v196) {v198 : PV} (hv198 : IsW a199 v198)  {o : ((Sl Api_CSN) × Int)}
    (hbrk : ∀ {σ' : Nat → PV} {S' : List SObj}, ∀ (v285 : PV) (_ : IsSl e_Api_CSN o.1 v285), Known [(7, v285), (8, (.int .i64 o.2))] σ' → Hp S0 R S' [] [(v285, 3)] [(v196, rowO e_Api_CSN 3 false a197), (v198, rowO e_Api_CSN 3 false a199)] → K (.exit 0) σ' S' false) :
    ∀ {n : Nat} {x200 : Sl Api_CSN} {x202 : Int}, F29_L0 k a197 a199 n x200 x202 = some o → ∀ {σ : Nat → PV} {S : List SObj}, ∀ (v201 : PV) (_ : IsSl e_Api_CSN x200 v201), Known [(5, v198), (6, v196), (7, v201), (8, (.int .i64 x202))] σ → Hp S0 R S [] [(v201, 3)] [(v196, rowO e_Api_CSN 3 false a197), (v198, rowO e_Api_CSN 3 false a199)] → WC env ⟨47, S0.length⟩ (.loop pc29L0) σ S false K := by
  intro n
  induction n with
  | zero => intro _ _ h; cases h
  | succ n ih =>
    intro x200 x202 h σ S v201 hv201 hk H
    rw [F29_L0] at h
    refine WC.loop ?_
    refine WC.of_known hk ?_
    refine WC.seq ?_
    refine WC.seqR ?_
    refine WO.step (v := (.int .i64 x202)) rfl (nz rfl rfl) ?_
    refine WO.step (v := v198) rfl (nz rfl rfl) ?_
    refine WO.step (v := (.int .i64 (Sl.len a199))) rfl (nz rfl (stp_lenW rfl hv198 rfl)) ?_
    refine WO.step (v := v196) rfl (nz rfl rfl) ?_
    refine WO.step (v := (.int .i64 (Sl.len a197))) rfl (nz rfl (stp_lenW rfl hv196 rfl)) ?_
    refine WO.step (v := (.int .i64 (imin (Sl.len a199) (Sl.len a197)))) rfl (nz rfl rfl) ?_
    refine WO.step (v := (.bool (decide (x202 < (imin (Sl.len a199) (Sl.len a197)))))) rfl (nz rfl rfl) ?_
    refine WO.nil ?_
    rcases iteS h with ⟨hc284, h⟩ | ⟨hc284, h⟩
    · refine WC.condT rfl hc284 ?_
      refine WC.skip ?_
      refine KX.seq_n ?_
      refine WC.seq ?_
      refine WC.block ?_
      refine WC.seq ?_
      refine WC.draw ?_
      refine WH.step (v := v198) rfl (nz rfl rfl) rfl rfl ?_
      refine WH.step (v := (.int .i64 x202)) rfl (nz rfl rfl) rfl rfl ?_
      obtain ⟨y244, hy244, h⟩ := bindS h
      obtain ⟨i245, hi245⟩ := IsW.id hv198 hy244
      refine WH.step (v := (.ptr i245 (Int.toNat x202 * 3 + 0))) rfl (nz rfl (stp_idxW (sz := 3) rfl hv198 rfl rfl rfl hy244 hi245)) rfl rfl ?_
      refine WH.step (v := (.agg [(.int .i64 y244.Time), (.int .i64 y244.Seq), (.int .i64 y244.Rep)])) rfl (nz rfl (stp_loadW rfl (H.getW 1 rfl hi245) hy244 (Nat.le_of_ble_eq_true rfl) rfl)) rfl rfl ?_
      refine WH.step (v := v196) rfl (nz rfl rfl) rfl rfl ?_
      refine WH.step (v := (.int .i64 x202)) rfl (nz rfl rfl) rfl rfl ?_
      obtain ⟨y246, hy246, h⟩ := bindS h
      obtain ⟨i247, hi247⟩ := IsW.id hv196 hy246
      refine WH.step (v := (.ptr i247 (Int.toNat x202 * 3 + 0))) rfl (nz rfl (stp_idxW (sz := 3) rfl hv196 rfl rfl rfl hy246 hi247)) rfl rfl ?_
      refine WH.step (v := (.agg [(.int .i64 y246.Time), (.int .i64 y246.Seq), (.int .i64 y246.Rep)])) rfl (nz rfl (stp_loadW rfl (H.getW 0 rfl hi247) hy246 (Nat.le_of_ble_eq_true rfl) rfl)) rfl rfl ?_
      refine WH.nil ?_
      obtain ⟨y248, hy248, h⟩ := bindS h
      refine WO.step (v := (.int .i64 y248)) rfl (nz rfl (stp_call (vs := [(.agg [(.int .i64 y244.Time), (.int .i64 y244.Seq), (.int .i64 y244.Rep)]), (.agg [(.int .i64 y246.Time), (.int .i64 y246.Seq), (.int .i64 y246.Rep)])]) rfl rfl (s51 _ hy248 rfl _))) ?_
      refine WO.step (v := (.bool (decide (y248 ≤ 0)))) rfl (nz rfl rfl) ?_
      refine WO.nil ?_
      refine KX.seq_n ?_
      obtain ⟨y271, hy271, hOy271⟩ := bindS h
      refine WC.join (fun σ' S' e' => ∃ v272, IsSl e_Api_CSN y271 v272 ∧ Known ([(5, v198), (6, v196), (7, v272), (8, (.int .i64 x202))]) σ' ∧ Hp S0 R S' [] [(v272, 3)] [(v196, rowO e_Api_CSN 3 false a197), (v198, rowO e_Api_CSN 3 false a199)] ∧ e' = false) ?_ ?_
      · replace h := hy271
        rcases iteS h with ⟨hc283, h⟩ | ⟨hc283, h⟩
        · refine WC.condT rfl hc283 ?_
          refine WC.region ?_
          refine WO.step (v := v201) rfl (nz rfl rfl) ?_
          refine WO.step (v := v198) rfl (nz rfl rfl) ?_
          refine WO.step (v := (.int .i64 x202)) rfl (nz rfl rfl) ?_
          obtain ⟨y273, hy273, h⟩ := bindS h
          obtain ⟨i274, hi274⟩ := IsW.id hv198 hy273
          refine WO.step (v := (.ptr i274 (Int.toNat x202 * 3 + 0))) rfl (nz rfl (stp_idxW (sz := 3) rfl hv198 rfl rfl rfl hy273 hi274)) ?_
          refine WO.step (v := (.agg [(.int .i64 y273.Time), (.int .i64 y273.Seq), (.int .i64 y273.Rep)])) rfl (nz rfl (stp_loadW rfl (H.getW 1 rfl hi274) hy273 (Nat.le_of_ble_eq_true rfl) rfl)) ?_
          refine WO.step rfl (nz rfl (stp_buildSlice (ys := [y273]) (f := e_Api_CSN) (parts := [(0, (.agg [(.int .i64 y273.Time), (.int .i64 y273.Seq), (.int .i64 y273.Rep)]))]) rfl rfl rfl rfl rfl rfl (fc ⟨rfl, rfl⟩ (fun p hp => nomatch hp)) rfl)) ?_
          have hv275 : IsSl e_Api_CSN (some [y273]) _ := ⟨.full, rfl⟩
          obtain ⟨z276, hz276, h⟩ := bindS h
          refine WO.ex rfl (nzx (fz_tmp' hv275.frz rfl) (stp_app (f := e_Api_CSN) (ei := ty50) H 0 rfl rfl hv201 rfl hv275 rfl rfl rfl rfl (fun a => (e_Api_CSN_one a).2.1) hz276)) ?_
          rintro v277 S ⟨hv277, H⟩
          replace H : Hp S0 R _ [] [(v277, 3)] [(v196, rowO e_Api_CSN 3 false a197), (v198, rowO e_Api_CSN 3 false a199)] := H
          refine WO.step (v := v277) rfl (nz rfl rfl) ?_
          refine WO.nil ?_
          refine KX.seq_n ?_
          obtain rfl := Option.some.inj h
          exact ⟨v277, hv277, (known_cons rfl (known_cons rfl (known_cons rfl (known_cons rfl known_nil)))), (H.sub .slnil (.cons_cons _ .slnil) (.cons_cons _ (.cons_cons _ .slnil))), rfl⟩
        · refine WC.condF rfl hc283 ?_
          refine WC.region ?_
          refine WO.step (v := v201) rfl (nz rfl rfl) ?_
          refine WO.step (v := v196) rfl (nz rfl rfl) ?_
          refine WO.step (v := (.int .i64 x202)) rfl (nz rfl rfl) ?_
          obtain ⟨y278, hy278, h⟩ := bindS h
          obtain ⟨i279, hi279⟩ := IsW.id hv196 hy278
          refine WO.step (v := (.ptr i279 (Int.toNat x202 * 3 + 0))) rfl (nz rfl (stp_idxW (sz := 3) rfl hv196 rfl rfl rfl hy278 hi279)) ?_
          refine WO.step (v := (.agg [(.int .i64 y278.Time), (.int .i64 y278.Seq), (.int .i64 y278.Rep)])) rfl (nz rfl (stp_loadW rfl (H.getW 0 rfl hi279) hy278 (Nat.le_of_ble_eq_true rfl) rfl)) ?_
          refine WO.step rfl (nz rfl (stp_buildSlice (ys := [y278]) (f := e_Api_CSN) (parts := [(0, (.agg [(.int .i64 y278.Time), (.int .i64 y278.Seq), (.int .i64 y278.Rep)]))]) rfl rfl rfl rfl rfl rfl (fc ⟨rfl, rfl⟩ (fun p hp => nomatch hp)) rfl)) ?_
          have hv280 : IsSl e_Api_CSN (some [y278]) _ := ⟨.full, rfl⟩
          obtain ⟨z281, hz281, h⟩ := bindS h
          refine WO.ex rfl (nzx (fz_tmp' hv280.frz rfl) (stp_app (f := e_Api_CSN) (ei := ty50) H 0 rfl rfl hv201 rfl hv280 rfl rfl rfl rfl (fun a => (e_Api_CSN_one a).2.1) hz281)) ?_
          rintro v282 S ⟨hv282, H⟩
          replace H : Hp S0 R _ [] [(v282, 3)] [(v196, rowO e_Api_CSN 3 false a197), (v198, rowO e_Api_CSN 3 false a199)] := H
          refine WO.step (v := v282) rfl (nz rfl rfl) ?_
          refine WO.nil ?_
          refine KX.seq_n ?_
          obtain rfl := Option.some.inj h
          exact ⟨v282, hv282, (known_cons rfl (known_cons rfl (known_cons rfl (known_cons rfl known_nil)))), (H.sub .slnil (.cons_cons _ .slnil) (.cons_cons _ (.cons_cons _ .slnil))), rfl⟩
      · rintro σ S e ⟨v272, hv272, hk, H, rfl⟩
        replace h := hOy271
        refine KX.of_known hk ?_
        refine KX.block_n ?_
        refine KX.seq_n ?_
        refine WC.region ?_
        refine WO.step (v := (.int .i64 x202)) rfl (nz rfl rfl) ?_
        refine WO.step (v := (.int .i64 (ad .i64 x202 1))) rfl (nz rfl rfl) ?_
        refine WO.step (v := (.int .i64 (ad .i64 x202 1))) rfl (nz rfl rfl) ?_
        refine WO.nil ?_
        refine KX.seq_n ?_
        exact ih h v272 (hv272) (known_cons rfl (known_cons rfl (known_cons rfl (known_cons rfl known_nil)))) (H.sub .slnil (.cons_cons _ .slnil) (.cons_cons _ (.cons_cons _ .slnil)))
    · refine WC.condF rfl hc284 ?_
      refine WC.exit ?_
      refine KX.seq_x ?_
      refine KX.seq_x ?_
      obtain rfl := Option.some.inj h
      exact hbrk v201 (hv201) (known_cons rfl (known_cons rfl known_nil)) (H.sub .slnil (.cons_cons _ .slnil) (.cons_cons _ (.cons_cons _ .slnil)))
theorem s29 : ∀ k : Nat, ∀ {a0 : Sl Api_CSN} {a1 : Sl Api_CSN} {r : (Sl Api_CSN)}, F29 k a0 a1 = some r → ∀ {vs : List PV}, vs.map PV.strip = [(encSl e_Api_CSN a0), (encSl e_Api_CSN a1)] → ∀ S : List SObj, evw env 29 vs S = some ((encSl e_Api_CSN r), S, false) := by
  intro k a0 a1 r h vs ha S
  unfold F29 at h
  refine evw_pureW (pf := fn29) rfl rfl ha (Nat.le_of_ble_eq_true rfl) (by simp [PV.clean, cleanL, clean_encSl clean_Api_CSN]) (by simp [PV.clean, cleanL, clean_encSl clean_Api_CSN]) ?_
  refine WB.of (pf := fn29) rfl ?_
  have H := Hp.start []
  refine WC.seqR ?_
  refine WO.step (v := .nils) rfl (nz rfl rfl) ?_
  refine WO.nil ?_
  refine WC.seqR ?_
  refine WO.step (v := (encSl e_Api_CSN a0)) rfl (nz rfl rfl) ?_
  obtain ⟨y1, hy1, h⟩ := bindS h
  refine WO.ex rfl (nzx (fz_tmp' (isSl_enc _ _).frz rfl) (stp_callW (vs := [(encSl e_Api_CSN a0)]) rfl rfl H (s37 _ hy1 (by simp only [strip_enc, List.map_cons, List.map_nil, tupled]) _))) ?_
  rintro v2 S ⟨hv2, H⟩
  replace H : Hp [] [] _ [] [] [(v2, rowO e_Api_CSN 3 false y1)] := H
  refine WO.step (v := (encSl e_Api_CSN a1)) rfl (nz rfl rfl) ?_
  obtain ⟨y3, hy3, h⟩ := bindS h
  refine WO.ex rfl (nzx (fz_tmp' (isSl_enc _ _).frz rfl) (stp_callW (vs := [(encSl e_Api_CSN a1)]) rfl rfl H (s37 _ hy3 (by simp only [strip_enc, List.map_cons, List.map_nil, tupled]) _))) ?_
  rintro v4 S ⟨hv4, H⟩
  replace H : Hp [] [] _ [] [] [(v4, rowO e_Api_CSN 3 false y3), (v2, rowO e_Api_CSN 3 false y1)] := H
  refine WO.step (v := v2) rfl (nz rfl rfl) ?_
  refine WO.step (v := v4) rfl (nz rfl rfl) ?_
  refine WO.nil ?_
  refine WC.seqR ?_
  refine WO.step (v := .nils) rfl (nz rfl rfl) ?_
  refine WO.nil ?_
  refine WC.seq ?_
  refine WC.seqR ?_
  refine WO.step (v := (.int .i64 0)) rfl (nz rfl rfl) ?_
  refine WO.nil ?_
  obtain ⟨y286, hy286, hOy286⟩ := bindS h
  refine WC.block ?_
  have H := H.addNil 3
  refine l29_L0 (hv4) (hv2) ?_ hy286 .nils ((isSl_nil _)) (known_cons rfl (known_cons rfl (known_cons rfl (known_cons rfl known_nil)))) (H.sub .slnil (.cons_cons _ .slnil) (.cons_cons _ (.cons_cons _ .slnil)))
  · intro σ S v287 hv287 hk H; replace h := hOy286
    refine KX.of_known hk ?_
    refine KX.block_x ?_
    refine KX.seq_n ?_
    refine WC.seqR ?_
    refine WO.step (v := v287) rfl (nz rfl rfl) ?_
    refine WO.step (v := v287) rfl (nz rfl rfl) ?_
    refine WO.nil ?_
    refine WC.ret ?_
    obtain rfl := Option.some.inj h
    refine KB.ret (vs := [v287]) (res_tmp rfl res_nil) (fl_cons' hv287.frz rfl) ?_
    exact (by simp only [st_tup, List.map_cons, List.map_nil, tupled, hv287.strip])
-- 31 prefect/prefectref10.Leq
def F31_L0 (k : Nat) (a48 : Sl Api_CSN) (a50 : Sl Api_CSN) : Nat → Int → Option (Out Bool Int)
  | 0, _ => none
  | n + 1, x51 =>
    if decide (x51 < (Sl.len a50)) then
    Option.bind (Sl.at? a50 x51) fun y60 =>
    Option.bind (Sl.at? a48 x51) fun y62 =>
    Option.bind (F51 k y60 y62) fun y64 =>
    if decide (y64 > 0) then
    some (Out.ret false)
    else
    F31_L0 k a48 a50 n (ad .i64 x51 1)
    else
    some (Out.brk x51)
/-- prefect/prefectref10.Leq -/
def F31 (k : Nat) (a0 : Sl Api_CSN) (a1 : Sl Api_CSN) : Option Bool :=
  Option.bind (F37 k a0) fun y1 =>
  Option.bind (F37 k a1) fun y3 =>
  if decide ((Sl.len y1) > (Sl.len y3)) then
  some false
  else
  Option.bind (F31_L0 k y3 y1 k 0) fun y68 =>
  match y68 with
  | .ret y68r => some y68r
  | .brk y68b =>
  some true
theorem l31_L0 {k : Nat} {a48 : Sl Api_CSN} {a50 : Sl Api_CSN} {S0 : List SObj} {R : List Nat} {K : KX} {v47 : PV} (hv47 : IsW a48 v47) {v49 : PV} (hv49 : IsW a50 v49)  {o : Out Bool Int}
    (hret : ∀ r : Bool, o = .ret r → ∀ {σ' : Nat → PV} {S' : List SObj}, Known [(4, (.bool r))] σ' → Hp S0 R S' [] [] [] → K .ret σ' S' false)
    (hbrk : ∀ y : Int, o = .brk y → ∀ {σ' : Nat → PV} {S' : List SObj}, Known [(7, (.int .i64 y))] σ' → Hp S0 R S' [] [] [(v47, rowO e_Api_CSN 3 false a48), (v49, rowO e_Api_CSN 3 false a50)] → K (.exit 0) σ' S' false) :
    ∀ {n : Nat} {x51 : Int}, F31_L0 k a48 a50 n x51 = some o → ∀ {σ : Nat → PV} {S : List SObj}, Known [(5, v49), (6, v47), (7, (.int .i64 x51))] σ → Hp S0 R S [] [] [(v47, rowO e_Api_CSN 3 false a48), (v49, rowO e_Api_CSN 3 false a50)] → WC env ⟨33, S0.length⟩ (.loop pc31L0) σ S false K := by
  intro n
  induction n with
  | zero => intro _ h; cases h
  | succ n ih =>
    intro x51 h σ S  hk H
    rw [F31_L0] at h
    refine WC.loop ?_
    refine WC.of_known hk ?_
    refine WC.seq ?_
    refine WC.seqR ?_
    refine WO.step (v := (.int .i64 x51)) rfl (nz rfl rfl) ?_
    refine WO.step (v := v49) rfl (nz rfl rfl) ?_
    refine WO.step (v := (.int .i64 (Sl.len a50))) rfl (nz rfl (stp_lenW rfl hv49 rfl)) ?_
    refine WO.step (v := (.bool (decide (x51 < (Sl.len a50))))) rfl (nz rfl rfl) ?_
    refine WO.nil ?_
    rcases iteS h with ⟨hc67, h⟩ | ⟨hc67, h⟩
    · refine WC.condT rfl hc67 ?_
      refine WC.skip ?_
      refine KX.seq_n ?_
      refine WC.seq ?_
      refine WC.block ?_
      refine WC.seq ?_
      refine WC.draw ?_
      refine WH.step (v := v49) rfl (nz rfl rfl) rfl rfl ?_
      refine WH.step (v := (.int .i64 x51)) rfl (nz rfl rfl) rfl rfl ?_
      obtain ⟨y60, hy60, h⟩ := bindS h
      obtain ⟨i61, hi61⟩ := IsW.id hv49 hy60
      refine WH.step (v := (.ptr i61 (Int.toNat x51 * 3 + 0))) rfl (nz rfl (stp_idxW (sz := 3) rfl hv49 rfl rfl rfl hy60 hi61)) rfl rfl ?_
      refine WH.step (v := (.agg [(.int .i64 y60.Time), (.int .i64 y60.Seq), (.int .i64 y60.Rep)])) rfl (nz rfl (stp_loadW rfl (H.getW 1 rfl hi61) hy60 (Nat.le_of_ble_eq_true rfl) rfl)) rfl rfl ?_
      refine WH.step (v := v47) rfl (nz rfl rfl) rfl rfl ?_
      refine WH.step (v := (.int .i64 x51)) rfl (nz rfl rfl) rfl rfl ?_
      obtain ⟨y62, hy62, h⟩ := bindS h
      obtain ⟨i63, hi63⟩ := IsW.id hv47 hy62
      refine WH.step (v := (.ptr i63 (Int.toNat x51 * 3 + 0))) rfl (nz rfl (stp_idxW (sz := 3) rfl hv47 rfl rfl rfl hy62 hi63)) rfl rfl ?_
      refine WH.step (v := (.agg [(.int .i64 y62.Time), (.int .i64 y62.Seq), (.int .i64 y62.Rep)])) rfl (nz rfl (stp_loadW rfl (H.getW 0 rfl hi63) hy62 (Nat.le_of_ble_eq_true rfl) rfl)) rfl rfl ?_
      refine WH.nil ?_
      obtain ⟨y64, hy64, h⟩ := bindS h
      refine WO.step (v := (.int .i64 y64)) rfl (nz rfl (stp_call (vs := [(.agg [(.int .i64 y60.Time), (.int .i64 y60.Seq), (.int .i64 y60.Rep)]), (.agg [(.int .i64 y62.Time), (.int .i64 y62.Seq), (.int .i64 y62.Rep)])]) rfl rfl (s51 _ hy64 rfl _))) ?_
      refine WO.step (v := (.bool (decide (y64 > 0)))) rfl (nz rfl rfl) ?_
      refine WO.nil ?_
      refine KX.seq_n ?_
      rcases iteS h with ⟨hc66, h⟩ | ⟨hc66, h⟩
      · refine WC.condT rfl hc66 ?_
        refine WC.seqR ?_
        refine WO.step (v := (.bool false)) rfl (nz rfl rfl) ?_
        refine WO.nil ?_
        refine WC.ret ?_
        refine KX.block_r ?_
        refine KX.seq_r ?_
        refine KX.seq_r ?_
        obtain rfl := Option.some.inj h
        exact hret _ rfl (known_cons rfl known_nil) (H.sub .slnil .slnil (.cons _ (.cons _ .slnil)))
      · refine WC.condF rfl hc66 ?_
        refine WC.skip ?_
        refine KX.block_n ?_
        refine KX.seq_n ?_
        refine WC.region ?_
        refine WO.step (v := (.int .i64 x51)) rfl (nz rfl rfl) ?_
        refine WO.step (v := (.int .i64 (ad .i64 x51 1))) rfl (nz rfl rfl) ?_
        refine WO.step (v := (.int .i64 (ad .i64 x51 1))) rfl (nz rfl rfl) ?_
        refine WO.nil ?_
        refine KX.seq_n ?_
        exact ih h  (known_cons rfl (known_cons rfl (known_cons rfl known_nil))) (H.sub .slnil .slnil (.cons_cons _ (.cons_cons _ .slnil)))
    · refine WC.condF rfl hc67 ?_
      refine WC.exit ?_
      refine KX.seq_x ?_
      refine KX.seq_x ?_
      obtain rfl := Option.some.inj h
      exact hbrk _ rfl  (known_cons rfl known_nil) (H.sub .slnil .slnil (.cons_cons _ (.cons_cons _ .slnil)))
theorem s31 : ∀ k : Nat, ∀ {a0 : Sl Api_CSN} {a1 : Sl Api_CSN} {r : Bool}, F31 k a0 a1 = some r → ∀ {vs : List PV}, vs.map PV.strip = [(encSl e_Api_CSN a0), (encSl e_Api_CSN a1)] → ∀ S : List SObj, evw env 31 vs S = some ((.bool r), S, false) := by
  intro k a0 a1 r h vs ha S
  unfold F31 at h
  refine evw_pureW (pf := fn31) rfl rfl ha (Nat.le_of_ble_eq_true rfl) (by simp [PV.clean, cleanL, clean_encSl clean_Api_CSN]) rfl ?_
  refine WB.of (pf := fn31) rfl ?_
  have H := Hp.start []
  refine WC.seqR ?_
  refine WO.step (v := (.bool false)) rfl (nz rfl rfl) ?_
  refine WO.nil ?_
  refine WC.seqR ?_
  refine WO.step (v := (encSl e_Api_CSN a0)) rfl (nz rfl rfl) ?_
  obtain ⟨y1, hy1, h⟩ := bindS h
  refine WO.ex rfl (nzx (fz_tmp' (isSl_enc _ _).frz rfl) (stp_callW (vs := [(encSl e_Api_CSN a0)]) rfl rfl H (s37 _ hy1 (by simp only [strip_enc, List.map_cons, List.map_nil, tupled]) _))) ?_
  rintro v2 S ⟨hv2, H⟩
  replace H : Hp [] [] _ [] [] [(v2, rowO e_Api_CSN 3 false y1)] := H
  refine WO.step (v := (encSl e_Api_CSN a1)) rfl (nz rfl rfl) ?_
  obtain ⟨y3, hy3, h⟩ := bindS h
  refine WO.ex rfl (nzx (fz_tmp' (isSl_enc _ _).frz rfl) (stp_callW (vs := [(encSl e_Api_CSN a1)]) rfl rfl H (s37 _ hy3 (by simp only [strip_enc, List.map_cons, List.map_nil, tupled]) _))) ?_
  rintro v4 S ⟨hv4, H⟩
  replace H : Hp [] [] _ [] [] [(v4, rowO e_Api_CSN 3 false y3), (v2, rowO e_Api_CSN 3 false y1)] := H
  refine WO.step (v := v2) rfl (nz rfl rfl) ?_
  refine WO.step (v := v4) rfl (nz rfl rfl) ?_
  refine WO.nil ?_
  refine WC.seq ?_
  refine WC.seqR ?_
  refine WO.step (v := v2) rfl (nz rfl rfl) ?_
  refine WO.step (v := (.int .i64 (Sl.len y1))) rfl (nz rfl (stp_lenW rfl hv2 rfl)) ?_
  refine WO.step (v := v4) rfl (nz rfl rfl) ?_
  refine WO.step (v := (.int .i64 (Sl.len y3))) rfl (nz rfl (stp_lenW rfl hv4 rfl)) ?_
  refine WO.step (v := (.bool (decide ((Sl.len y1) > (Sl.len y3))))) rfl (nz rfl rfl) ?_
  refine WO.nil ?_
  rcases iteS h with ⟨hc69, h⟩ | ⟨hc69, h⟩
  · refine WC.condT rfl hc69 ?_
    refine WC.seqR ?_
    refine WO.step (v := (.bool false)) rfl (nz rfl rfl) ?_
    refine WO.nil ?_
    refine WC.ret ?_
    refine KX.seq_r ?_
    obtain rfl := Option.some.inj h
    refine KB.ret (vs := [(.bool false)]) (res_tmp rfl res_nil) (fl_cons' rfl rfl) ?_
    exact rfl
  · refine WC.condF rfl hc69 ?_
    refine WC.skip ?_
    refine KX.seq_n ?_
    refine WC.seq ?_
    refine WC.seqR ?_
    refine WO.step (v := (.int .i64 0)) rfl (nz rfl rfl) ?_
    refine WO.nil ?_
    obtain ⟨y68, hy68, hOy68⟩ := bindS h
    refine WC.block ?_
    refine l31_L0 (hv4) (hv2) ?_ ?_ hy68  (known_cons rfl (known_cons rfl (known_cons rfl known_nil))) (H.sub .slnil .slnil (.cons_cons _ (.cons_cons _ .slnil)))
    · intro y68r he σ S  hk H; subst he; replace h := hOy68; dsimp only at h
      refine KX.of_known hk ?_
      refine KX.block_r ?_
      refine KX.seq_r ?_
      obtain rfl := Option.some.inj h
      refine KB.ret (vs := [(.bool y68r)]) (res_tmp rfl res_nil) (fl_cons' rfl rfl) ?_
      exact rfl
    · intro y68b he σ S  hk H; subst he; replace h := hOy68; dsimp only at h
      refine KX.of_known hk ?_
      refine KX.block_x ?_
      refine KX.seq_n ?_
      refine WC.seqR ?_
      refine WO.step (v := (.bool true)) rfl (nz rfl rfl) ?_
      refine WO.nil ?_
      refine WC.ret ?_
      obtain rfl := Option.some.inj h
      refine KB.ret (vs := [(.bool true)]) (res_tmp rfl res_nil) (fl_cons' rfl rfl) ?_
      exact rfl
-- 33 prefect/prefectref10.Covers
/-- prefect/prefectref10.Covers -/
def F33 (k : Nat) (a0 : Sl Api_CSN) (a1 : Api_CSN) : Option Bool :=
  Option.bind (F37 k a0) fun y2 =>
  Option.bind (if (decide (a1.Rep ≥ 0)) && (decide (a1.Rep < (Sl.len y2))) then
  Option.bind (Sl.at? y2 a1.Rep) fun y10 =>
  Option.bind (F51 k a1 y10) fun y12 =>
  some (decide (y12 ≤ 0))
  else
  some false) fun y9 =>
  some y9
theorem s33 : ∀ k : Nat, ∀ {a0 : Sl Api_CSN} {a1 : Api_CSN} {r : Bool}, F33 k a0 a1 = some r → ∀ {vs : List PV}, vs.map PV.strip = [(encSl e_Api_CSN a0), (.agg [(.int .i64 a1.Time), (.int .i64 a1.Seq), (.int .i64 a1.Rep)])] → ∀ S : List SObj, evw env 33 vs S = some ((.bool r), S, false) := by
  intro k a0 a1 r h vs ha S
  unfold F33 at h
  refine evw_pureW (pf := fn33) rfl rfl ha (Nat.le_of_ble_eq_true rfl) (by simp [PV.clean, cleanL, clean_encSl clean_Api_CSN]) rfl ?_
  refine WB.of (pf := fn33) rfl ?_
  have H := Hp.start []
  refine WC.seqR ?_
  refine WO.box' rfl rfl rfl rfl rfl H ?_
  intro i1 S hi1 H
  refine WO.step (v := (.bool false)) rfl (nz rfl rfl) ?_
  refine WO.nil ?_
  refine WC.seqR ?_
  refine WO.step (v := (encSl e_Api_CSN a0)) rfl (nz rfl rfl) ?_
  obtain ⟨y2, hy2, h⟩ := bindS h
  refine WO.ex rfl (nzx (fz_tmp' (isSl_enc _ _).frz rfl) (stp_callW (vs := [(encSl e_Api_CSN a0)]) rfl rfl H (s37 _ hy2 (by simp only [strip_enc, List.map_cons, List.map_nil, tupled]) _))) ?_
  rintro v3 S ⟨hv3, H⟩
  replace H : Hp [] [] _ [(i1, .cells [(.int .i64 a1.Time), (.int .i64 a1.Seq), (.int .i64 a1.Rep)])] [] [(v3, rowO e_Api_CSN 3 false y2)] := H
  refine WO.step (v := v3) rfl (nz rfl rfl) ?_
  refine WO.nil ?_
  refine WC.seq ?_
  refine WC.draw ?_
  refine WH.step (v := (.ptr i1 2)) rfl (nz rfl rfl) rfl rfl ?_
  refine WH.step (v := (.int .i64 a1.Rep)) rfl (nz rfl (stp_load rfl (H.get 0 rfl) rfl)) rfl rfl ?_
  refine WH.step (v := (.bool (decide (a1.Rep ≥ 0)))) rfl (nz rfl rfl) rfl rfl ?_
  refine WH.step (v := (.bool (decide (a1.Rep ≥ 0)))) rfl (nz rfl rfl) rfl rfl ?_
  refine WH.split 6 (fun σ' => Known ([(3, (.ptr i1 0)), (5, v3), (17, (.bool ((decide (a1.Rep ≥ 0)) && (decide (a1.Rep < (Sl.len y2))))))]) σ') ?_ ?_
  · cases hc4 : (decide (a1.Rep ≥ 0))
    · skip
      refine WH.by rfl rfl rfl ?_
      refine WH.by rfl rfl rfl ?_
      refine WH.by rfl rfl rfl ?_
      refine WH.by rfl rfl rfl ?_
      refine WH.by rfl rfl rfl ?_
      refine WH.step (v := (.bool false)) rfl (nz rfl rfl) rfl rfl ?_
      refine WH.nil ?_
      exact (known_cons rfl (known_cons rfl (known_cons rfl known_nil)))
    · skip
      refine WH.go0 rfl rfl ?_
      refine WH.step (v := (.ptr i1 2)) rfl (nz rfl rfl) rfl rfl ?_
      refine WH.go0 rfl rfl ?_
      refine WH.step (v := (.int .i64 a1.Rep)) rfl (nz rfl (stp_load rfl (H.get 0 rfl) rfl)) rfl rfl ?_
      refine WH.go0 rfl rfl ?_
      refine WH.step (v := v3) rfl (nz rfl rfl) rfl rfl ?_
      refine WH.go0 rfl rfl ?_
      refine WH.step (v := (.int .i64 (Sl.len y2))) rfl (nz rfl (stp_lenW rfl hv3 rfl)) rfl rfl ?_
      refine WH.go0 rfl rfl ?_
      refine WH.step (v := (.bool (decide (a1.Rep < (Sl.len y2))))) rfl (nz rfl rfl) rfl rfl ?_
      refine WH.step (v := (.bool (decide (a1.Rep < (Sl.len y2))))) rfl (nz rfl rfl) rfl rfl ?_
      refine WH.nil ?_
      exact (known_cons rfl (known_cons rfl (known_cons rfl known_nil)))
  · intro σ hk
    refine WH.of_known hk ?_
    refine WH.step (v := (.bool ((decide (a1.Rep ≥ 0)) && (decide (a1.Rep < (Sl.len y2)))))) rfl (nz rfl rfl) rfl rfl ?_
    obtain ⟨y9, hy9, hOy9⟩ := bindS h
    refine WD.split 3 (fun σ' S' e' => Known ([(27, (.bool y9))]) σ' ∧ Hp [] [] S' [(i1, .cells [(.int .i64 a1.Time), (.int .i64 a1.Seq), (.int .i64 a1.Rep)])] [] [(v3, rowO e_Api_CSN 3 false y2)] ∧ e' = false) ?_ ?_
    · replace h := hy9
      cases hc13 : ((decide (a1.Rep ≥ 0)) && (decide (a1.Rep < (Sl.len y2))))
      · replace h := iteF h hc13
        refine WH.by rfl rfl rfl ?_
        refine WH.by rfl rfl rfl ?_
        refine WH.by rfl rfl rfl ?_
        refine WH.by rfl rfl rfl ?_
        refine WH.by rfl rfl rfl ?_
        refine WH.by rfl rfl rfl ?_
        refine WH.nil ?_
        refine WO.by rfl rfl rfl ?_
        refine WO.by rfl rfl rfl ?_
        refine WO.step (v := (.bool false)) rfl (nz rfl rfl) ?_
        refine WO.nil ?_
        obtain rfl := Option.some.inj h
        exact ⟨(known_cons rfl known_nil), (H.sub (.cons_cons _ .slnil) .slnil (.cons_cons _ .slnil)), rfl⟩
      · replace h := iteT h hc13
        refine WH.go0 rfl rfl ?_
        refine WH.step (v := (.agg [(.int .i64 a1.Time), (.int .i64 a1.Seq), (.int .i64 a1.Rep)])) rfl (nz rfl (stp_load rfl (H.get 0 rfl) rfl)) rfl rfl ?_
        refine WH.go0 rfl rfl ?_
        refine WH.step (v := v3) rfl (nz rfl rfl) rfl rfl ?_
        refine WH.go0 rfl rfl ?_
        refine WH.step (v := (.ptr i1 2)) rfl (nz rfl rfl) rfl rfl ?_
        refine WH.go0 rfl rfl ?_
        refine WH.step (v := (.int .i64 a1.Rep)) rfl (nz rfl (stp_load rfl (H.get 0 rfl) rfl)) rfl rfl ?_
        refine WH.go0 rfl rfl ?_
        obtain ⟨y10, hy10, h⟩ := bindS h
        obtain ⟨i11, hi11⟩ := IsW.id hv3 hy10
        refine WH.step (v := (.ptr i11 (Int.toNat a1.Rep * 3 + 0))) rfl (nz rfl (stp_idxW (sz := 3) rfl hv3 rfl rfl rfl hy10 hi11)) rfl rfl ?_
        refine WH.go0 rfl rfl ?_
        refine WH.step (v := (.agg [(.int .i64 y10.Time), (.int .i64 y10.Seq), (.int .i64 y10.Rep)])) rfl (nz rfl (stp_loadW rfl (H.getW 0 rfl hi11) hy10 (Nat.le_of_ble_eq_true rfl) rfl)) rfl rfl ?_
        refine WH.nil ?_
        refine WO.go0 rfl rfl ?_
        obtain ⟨y12, hy12, h⟩ := bindS h
        refine WO.step (v := (.int .i64 y12)) rfl (nz rfl (stp_call (vs := [(.agg [(.int .i64 a1.Time), (.int .i64 a1.Seq), (.int .i64 a1.Rep)]), (.agg [(.int .i64 y10.Time), (.int .i64 y10.Seq), (.int .i64 y10.Rep)])]) rfl rfl (s51 _ hy12 rfl _))) ?_
        refine WO.go0 rfl rfl ?_
        refine WO.step (v := (.bool (decide (y12 ≤ 0)))) rfl (nz rfl rfl) ?_
        refine WO.step (v := (.bool (decide (y12 ≤ 0)))) rfl (nz rfl rfl) ?_
        refine WO.nil ?_
        obtain rfl := Option.some.inj h
        exact ⟨(known_cons rfl known_nil), (H.sub (.cons_cons _ .slnil) .slnil (.cons_cons _ .slnil)), rfl⟩
    · rintro σ S e ⟨hk, H, rfl⟩
      replace h := hOy9
      refine WO.of_known hk ?_
      refine WO.step (v := (.bool y9)) rfl (nz rfl rfl) ?_
      refine WO.nil ?_
      refine KX.seq_n ?_
      refine WC.ret ?_
      obtain rfl := Option.some.inj h
      refine KB.ret (vs := [(.bool y9)]) (res_tmp rfl res_nil) (fl_cons' rfl rfl) ?_
      exact rfl
-- 35 prefect/prefectref10.Least
def F35_L0 (k : Nat) (a74 : Sl Api_CSN) (a77 : Api_CSN) : Nat → Int → Api_CSN → Option (Int × Api_CSN)
  | 0, _, _ => none
  | n + 1, x75, b76 =>
    if decide (x75 < (Sl.len a74)) then
    Option.bind (Sl.at? a74 x75) fun y92 =>
    Option.bind (F51 k y92 b76) fun y94 =>
    Option.bind (if decide (y94 < 0) then
    Option.bind (Sl.at? a74 x75) fun y102 =>
    some y102
    else
    some b76) fun y101 =>
    F35_L0 k a74 a77 n (ad .i64 x75 1) y101
    else
    some (x75, b76)
/-- prefect/prefectref10.Least -/
def F35 (k : Nat) (a0 : Sl Api_CSN) : Option Api_CSN :=
  Option.bind (F37 k a0) fun y2 =>
  if (Sl.len y2) == 0 then
  some (Api_CSN.mk 0 0 0)
  else
  Option.bind (Sl.at? y2 0) fun y5 =>
  Option.bind (F35_L0 k y2 (Api_CSN.mk 0 0 0) k 1 y5) fun y106 =>
  some y106.2
theorem l35_L0 {k : Nat} {a74 : Sl Api_CSN} {a77 : Api_CSN} {S0 : List SObj} {R : List Nat} {K : KX} {i7 : Nat} {i1 : Nat} (hi7 : S0.length ≤ i7) (hi1 : S0.length ≤ i1) {v73 : PV} (hv73 : IsW a74 v73)  {o : (Int × Api_CSN)}
    (hbrk : ∀ {σ' : Nat → PV} {S' : List SObj}, Known [(2, (.ptr i1 0)), (4, (.ptr i7 0)), (5, (.int .i64 o.1))] σ' → Hp S0 R S' [(i7, .cells [(.int .i64 o.2.Time), (.int .i64 o.2.Seq), (.int .i64 o.2.Rep)]), (i1, .cells [(.int .i64 a77.Time), (.int .i64 a77.Seq), (.int .i64 a77.Rep)])] [] [(v73, rowO e_Api_CSN 3 false a74)] → K (.exit 0) σ' S' false) :
    ∀ {n : Nat} {x75 : Int} {b76 : Api_CSN}, F35_L0 k a74 a77 n x75 b76 = some o → ∀ {σ : Nat → PV} {S : List SObj}, Known [(2, (.ptr i1 0)), (3, v73), (4, (.ptr i7 0)), (5, (.int .i64 x75))] σ → Hp S0 R S [(i7, .cells [(.int .i64 b76.Time), (.int .i64 b76.Seq), (.int .i64 b76.Rep)]), (i1, .cells [(.int .i64 a77.Time), (.int .i64 a77.Seq), (.int .i64 a77.Rep)])] [] [(v73, rowO e_Api_CSN 3 false a74)] → WC env ⟨33, S0.length⟩ (.loop pc35L0) σ S false K := by
  intro n
  induction n with
  | zero => intro _ _ h; cases h
  | succ n ih =>
    intro x75 b76 h σ S  hk H
    rw [F35_L0] at h
    refine WC.loop ?_
    refine WC.of_known hk ?_
    refine WC.seq ?_
    refine WC.seqR ?_
    refine WO.step (v := (.int .i64 x75)) rfl (nz rfl rfl) ?_
    refine WO.step (v := v73) rfl (nz rfl rfl) ?_
    refine WO.step (v := (.int .i64 (Sl.len a74))) rfl (nz rfl (stp_lenW rfl hv73 rfl)) ?_
    refine WO.step (v := (.bool (decide (x75 < (Sl.len a74))))) rfl (nz rfl rfl) ?_
    refine WO.nil ?_
    rcases iteS h with ⟨hc105, h⟩ | ⟨hc105, h⟩
    · refine WC.condT rfl hc105 ?_
      refine WC.skip ?_
      refine KX.seq_n ?_
      refine WC.seq ?_
      refine WC.block ?_
      refine WC.seq ?_
      refine WC.draw ?_
      refine WH.step (v := v73) rfl (nz rfl rfl) rfl rfl ?_
      refine WH.step (v := (.int .i64 x75)) rfl (nz rfl rfl) rfl rfl ?_
      obtain ⟨y92, hy92, h⟩ := bindS h
      obtain ⟨i93, hi93⟩ := IsW.id hv73 hy92
      refine WH.step (v := (.ptr i93 (Int.toNat x75 * 3 + 0))) rfl (nz rfl (stp_idxW (sz := 3) rfl hv73 rfl rfl rfl hy92 hi93)) rfl rfl ?_
      refine WH.step (v := (.agg [(.int .i64 y92.Time), (.int .i64 y92.Seq), (.int .i64 y92.Rep)])) rfl (nz rfl (stp_loadW rfl (H.getW 0 rfl hi93) hy92 (Nat.le_of_ble_eq_true rfl) rfl)) rfl rfl ?_
      refine WH.step (v := (.agg [(.int .i64 b76.Time), (.int .i64 b76.Seq), (.int .i64 b76.Rep)])) rfl (nz rfl (stp_load rfl (H.get 0 rfl) rfl)) rfl rfl ?_
      refine WH.nil ?_
      obtain ⟨y94, hy94, h⟩ := bindS h
      refine WO.step (v := (.int .i64 y94)) rfl (nz rfl (stp_call (vs := [(.agg [(.int .i64 y92.Time), (.int .i64 y92.Seq), (.int .i64 y92.Rep)]), (.agg [(.int .i64 b76.Time), (.int .i64 b76.Seq), (.int .i64 b76.Rep)])]) rfl rfl (s51 _ hy94 rfl _))) ?_
      refine WO.step (v := (.bool (decide (y94 < 0)))) rfl (nz rfl rfl) ?_
      refine WO.nil ?_
      refine KX.seq_n ?_
      obtain ⟨y101, hy101, hOy101⟩ := bindS h
      refine WC.join (fun σ' S' e' => Known ([(2, (.ptr i1 0)), (3, v73), (4, (.ptr i7 0)), (5, (.int .i64 x75))]) σ' ∧ Hp S0 R S' [(i7, .cells [(.int .i64 y101.Time), (.int .i64 y101.Seq), (.int .i64 y101.Rep)]), (i1, .cells [(.int .i64 a77.Time), (.int .i64 a77.Seq), (.int .i64 a77.Rep)])] [] [(v73, rowO e_Api_CSN 3 false a74)] ∧ e' = false) ?_ ?_
      · replace h := hy101
        rcases iteS h with ⟨hc104, h⟩ | ⟨hc104, h⟩
        · refine WC.condT rfl hc104 ?_
          refine WC.region ?_
          refine WO.step (v := v73) rfl (nz rfl rfl) ?_
          refine WO.step (v := (.int .i64 x75)) rfl (nz rfl rfl) ?_
          obtain ⟨y102, hy102, h⟩ := bindS h
          obtain ⟨i103, hi103⟩ := IsW.id hv73 hy102
          refine WO.step (v := (.ptr i103 (Int.toNat x75 * 3 + 0))) rfl (nz rfl (stp_idxW (sz := 3) rfl hv73 rfl rfl rfl hy102 hi103)) ?_
          refine WO.step (v := (.agg [(.int .i64 y102.Time), (.int .i64 y102.Seq), (.int .i64 y102.Rep)])) rfl (nz rfl (stp_loadW rfl (H.getW 0 rfl hi103) hy102 (Nat.le_of_ble_eq_true rfl) rfl)) ?_
          refine WO.store 0 rfl rfl H rfl rfl rfl rfl rfl rfl rfl (Nat.le_of_ble_eq_true rfl) rfl (own_e hi7) ?_
          intro S H
          replace H : Hp S0 R _ [(i7, .cells [(.int .i64 y102.Time), (.int .i64 y102.Seq), (.int .i64 y102.Rep)]), (i1, .cells [(.int .i64 a77.Time), (.int .i64 a77.Seq), (.int .i64 a77.Rep)])] [] [(v73, rowO e_Api_CSN 3 false a74)] := H
          refine WO.nil ?_
          refine KX.seq_n ?_
          obtain rfl := Option.some.inj h
          exact ⟨(known_cons rfl (known_cons rfl (known_cons rfl (known_cons rfl known_nil)))), (H.sub (.cons_cons _ (.cons_cons _ .slnil)) .slnil (.cons_cons _ .slnil)), rfl⟩
        · refine WC.condF rfl hc104 ?_
          refine WC.skip ?_
          refine KX.seq_n ?_
          obtain rfl := Option.some.inj h
          exact ⟨(known_cons rfl (known_cons rfl (known_cons rfl (known_cons rfl known_nil)))), (H.sub (.cons_cons _ (.cons_cons _ .slnil)) .slnil (.cons_cons _ .slnil)), rfl⟩
      · rintro σ S e ⟨hk, H, rfl⟩
        replace h := hOy101
        refine KX.of_known hk ?_
        refine KX.block_n ?_
        refine KX.seq_n ?_
        refine WC.region ?_
        refine WO.step (v := (.int .i64 x75)) rfl (nz rfl rfl) ?_
        refine WO.step (v := (.int .i64 (ad .i64 x75 1))) rfl (nz rfl rfl) ?_
        refine WO.step (v := (.int .i64 (ad .i64 x75 1))) rfl (nz rfl rfl) ?_
        refine WO.nil ?_
        refine KX.seq_n ?_
        exact ih h  (known_cons rfl (known_cons rfl (known_cons rfl (known_cons rfl known_nil)))) (H.sub (.cons_cons _ (.cons_cons _ .slnil)) .slnil (.cons_cons _ .slnil))
    · refine WC.condF rfl hc105 ?_
      refine WC.exit ?_
      refine KX.seq_x ?_
      refine KX.seq_x ?_
      obtain rfl := Option.some.inj h
      exact hbrk  (known_cons rfl (known_cons rfl (known_cons rfl known_nil))) (H.sub (.cons_cons _ (.cons_cons _ .slnil)) .slnil (.cons_cons _ .slnil))
theorem s35 : ∀ k : Nat, ∀ {a0 : Sl Api_CSN} {r : Api_CSN}, F35 k a0 = some r → ∀ {vs : List PV}, vs.map PV.strip = [(encSl e_Api_CSN a0)] → ∀ S : List SObj, evw env 35 vs S = some ((.agg [(.int .i64 r.Time), (.int .i64 r.Seq), (.int .i64 r.Rep)]), S, false) := by
  intro k a0 r h vs ha S
  unfold F35 at h
  refine evw_pureW (pf := fn35) rfl rfl ha (Nat.le_of_ble_eq_true rfl) (by simp [PV.clean, cleanL, clean_encSl clean_Api_CSN]) rfl ?_
  refine WB.of (pf := fn35) rfl ?_
  have H := Hp.start []
  refine WC.seqR ?_
  refine WO.alloc' (ti := ty50) rfl rfl rfl rfl H ?_
  intro i1 S hi1 H
  refine WO.nil ?_
  refine WC.seqR ?_
  refine WO.step (v := (encSl e_Api_CSN a0)) rfl (nz rfl rfl) ?_
  obtain ⟨y2, hy2, h⟩ := bindS h
  refine WO.ex rfl (nzx (fz_tmp' (isSl_enc _ _).frz rfl) (stp_callW (vs := [(encSl e_Api_CSN a0)]) rfl rfl H (s37 _ hy2 (by simp only [strip_enc, List.map_cons, List.map_nil, tupled]) _))) ?_
  rintro v3 S ⟨hv3, H⟩
  replace H : Hp [] [] _ [(i1, .cells [(.int .i64 0), (.int .i64 0), (.int .i64 0)])] [] [(v3, rowO e_Api_CSN 3 false y2)] := H
  refine WO.step (v := v3) rfl (nz rfl rfl) ?_
  refine WO.nil ?_
  refine WC.seq ?_
  refine WC.seqR ?_
  refine WO.step (v := v3) rfl (nz rfl rfl) ?_
  refine WO.step (v := (.int .i64 (Sl.len y2))) rfl (nz rfl (stp_lenW rfl hv3 rfl)) ?_
  refine WO.step (v := (.bool ((Sl.len y2) == 0))) rfl (nz rfl rfl) ?_
  refine WO.nil ?_
  rcases iteS h with ⟨hc107, h⟩ | ⟨hc107, h⟩
  · refine WC.condT rfl hc107 ?_
    refine WC.seqR ?_
    refine WO.step (v := (.agg [(.int .i64 0), (.int .i64 0), (.int .i64 0)])) rfl (nz rfl (stp_build (ti := ty50) rfl rfl rfl rfl rfl rfl)) ?_
    refine WO.store 0 rfl rfl H rfl rfl rfl rfl rfl rfl rfl (Nat.le_of_ble_eq_true rfl) rfl (own_e hi1) ?_
    intro S H
    replace H : Hp [] [] _ [(i1, .cells [(.int .i64 0), (.int .i64 0), (.int .i64 0)])] [] [(v3, rowO e_Api_CSN 3 false y2)] := H
    refine WO.nil ?_
    refine WC.ret ?_
    refine KX.seq_r ?_
    obtain rfl := Option.some.inj h
    refine KB.ret (vs := [(.agg [(.int .i64 0), (.int .i64 0), (.int .i64 0)])]) (res_cell rfl (H.get 0 rfl) rfl res_nil) (fl_cons' rfl rfl) ?_
    exact rfl
  · refine WC.condF rfl hc107 ?_
    refine WC.skip ?_
    refine KX.seq_n ?_
    refine WC.seqR ?_
    refine WO.step (v := v3) rfl (nz rfl rfl) ?_
    obtain ⟨y5, hy5, h⟩ := bindS h
    obtain ⟨i6, hi6⟩ := IsW.id hv3 hy5
    refine WO.step (v := (.ptr i6 (Int.toNat 0 * 3 + 0))) rfl (nz rfl (stp_idxW (sz := 3) rfl hv3 rfl rfl rfl hy5 hi6)) ?_
    refine WO.step (v := (.agg [(.int .i64 y5.Time), (.int .i64 y5.Seq), (.int .i64 y5.Rep)])) rfl (nz rfl (stp_loadW rfl (H.getW 0 rfl hi6) hy5 (Nat.le_of_ble_eq_true rfl) rfl)) ?_
    refine WO.alloc' (ti := ty50) rfl rfl rfl rfl H ?_
    intro i7 S hi7 H
    refine WO.store 0 rfl rfl H rfl rfl rfl rfl rfl rfl rfl (Nat.le_of_ble_eq_true rfl) rfl (own_e hi7) ?_
    intro S H
    replace H : Hp [] [] _ [(i7, .cells [(.int .i64 y5.Time), (.int .i64 y5.Seq), (.int .i64 y5.Rep)]), (i1, .cells [(.int .i64 0), (.int .i64 0), (.int .i64 0)])] [] [(v3, rowO e_Api_CSN 3 false y2)] := H
    refine WO.nil ?_
    refine WC.seq ?_
    refine WC.seqR ?_
    refine WO.step (v := (.int .i64 1)) rfl (nz rfl rfl) ?_
    refine WO.nil ?_
    obtain ⟨y106, hy106, hOy106⟩ := bindS h
    refine WC.block ?_
    refine l35_L0 hi7 hi1 (hv3) ?_ hy106  (known_cons rfl (known_cons rfl (known_cons rfl (known_cons rfl known_nil)))) (H.sub (.cons_cons _ (.cons_cons _ .slnil)) .slnil (.cons_cons _ .slnil))
    · intro σ S  hk H; replace h := hOy106
      refine KX.of_known hk ?_
      refine KX.block_x ?_
      refine KX.seq_n ?_
      refine WC.seqR ?_
      refine WO.step (v := (.agg [(.int .i64 y106.2.Time), (.int .i64 y106.2.Seq), (.int .i64 y106.2.Rep)])) rfl (nz rfl (stp_load rfl (H.get 0 rfl) rfl)) ?_
      refine WO.store 1 rfl rfl H rfl rfl rfl rfl rfl rfl rfl (Nat.le_of_ble_eq_true rfl) rfl (own_e hi1) ?_
      intro S H
      replace H : Hp [] [] _ [(i7, .cells [(.int .i64 y106.2.Time), (.int .i64 y106.2.Seq), (.int .i64 y106.2.Rep)]), (i1, .cells [(.int .i64 y106.2.Time), (.int .i64 y106.2.Seq), (.int .i64 y106.2.Rep)])] [] [(v3, rowO e_Api_CSN 3 false y2)] := H
      refine WO.nil ?_
      refine WC.ret ?_
      obtain rfl := Option.some.inj h
      refine KB.ret (vs := [(.agg [(.int .i64 y106.2.Time), (.int .i64 y106.2.Seq), (.int .i64 y106.2.Rep)])]) (res_cell rfl (H.get 1 rfl) rfl res_nil) (fl_cons' rfl rfl) ?_
      exact rfl
end Go.Proofs.Ythcchjhieolflaa.M
