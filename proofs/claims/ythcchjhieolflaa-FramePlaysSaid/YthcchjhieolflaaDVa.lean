/- Part of the proof: the runs of functions on the abstract machine. -/
import Derived.Test.YthcchjhieolflaaPam31
import Derived.Test.YthcchjhieolflaaFns
namespace Go.Proofs.Ythcchjhieolflaa.M
open Go Go.Pam Go.RowKit Go.WideShapes
set_option maxRecDepth 4000
set_option linter.unusedVariables false
set_option linter.unusedSimpArgs false

def env : Env := ⟨ctx, fnOf, fun f => if f = 42 then some (isErrH 32) else none⟩
structure Frame_Cutter where
  s_ : Str
  deriving DecidableEq
def e_Frame_Cutter (x : Frame_Cutter) : PV := .agg [(.str x.s_)]
theorem clean_Frame_Cutter (x : Frame_Cutter) : (e_Frame_Cutter x).clean = true := by simp [e_Frame_Cutter, PV.clean, cleanL]
theorem e_Frame_Cutter_cells (x : Frame_Cutter) : (e_Frame_Cutter x).cells = [(.str x.s_)] := rfl
theorem e_Frame_Cutter_one (x : Frame_Cutter) : (e_Frame_Cutter x).storable = true ∧ (e_Frame_Cutter x).cells.length = 1 ∧ (e_Frame_Cutter x).strip = e_Frame_Cutter x := ⟨rfl, rfl, by simp only [e_Frame_Cutter, st_int, st_bool, st_str, st_nils, st_lst, st_agg, st_tup, st_fn, st1_int, st1_bool, st1_str, st1_nils, st1_lst, st2_int, st2_bool, st2_str, st2_nils, st2_lst, st2_agg, List.map_cons, List.map_nil, tupled, strip_enc, strip1_enc, strip2_enc]⟩
structure Api_Element where
  Tag : Int
  Body : Str
  Kids : Option (List Api_Element)
mutual
def e_Api_Element : Api_Element → PV
  | ⟨x0, x1, x2⟩ => .agg [(.int .u8 x0), (.str x1), e_Api_ElementO x2]
def e_Api_ElementO : Sl Api_Element → PV
  | none => .nils
  | some l => .lst (e_Api_ElementL l) .none
def e_Api_ElementL : List Api_Element → List PV
  | [] => []
  | a :: l => e_Api_Element a :: e_Api_ElementL l
end
theorem e_Api_ElementL_eq : ∀ l, e_Api_ElementL l = l.map e_Api_Element
  | [] => rfl
  | a :: l => by simp [e_Api_ElementL, e_Api_ElementL_eq l]
theorem e_Api_ElementO_eq (x : Sl Api_Element) : e_Api_ElementO x = encSl e_Api_Element x := by cases x <;> simp [e_Api_ElementO, encSl, e_Api_ElementL_eq]
mutual
theorem clean_Api_Element : ∀ x : Api_Element, (e_Api_Element x).clean = true
  | ⟨x0, x1, x2⟩ => by simp [e_Api_Element, PV.clean, cleanL, clean_Api_ElementO]
theorem clean_Api_ElementO : ∀ x : Sl Api_Element, (e_Api_ElementO x).clean = true
  | none => rfl
  | some l => by simp [e_Api_ElementO, PV.clean, clean_Api_ElementL l]
theorem clean_Api_ElementL : ∀ x : List Api_Element, cleanL (e_Api_ElementL x) = true
  | [] => rfl
  | a :: l => by simp [e_Api_ElementL, cleanL, clean_Api_Element a, clean_Api_ElementL l]
end
theorem e_Api_Element_eq (x : Api_Element) : e_Api_Element x = .agg [(.int .u8 x.Tag), (.str x.Body), (encSl e_Api_Element x.Kids)] := by cases x; simp [e_Api_Element, e_Api_ElementO_eq]
theorem e_Api_Element_cells (x : Api_Element) : (e_Api_Element x).cells = [(.int .u8 x.Tag), (.str x.Body), (encSl e_Api_Element x.Kids)] := by rw [e_Api_Element_eq]; rfl
theorem e_Api_Element_one (x : Api_Element) : (e_Api_Element x).storable = true ∧ (e_Api_Element x).cells.length = 3 ∧ (e_Api_Element x).strip = e_Api_Element x := by rw [e_Api_Element_eq]; exact ⟨rfl, rfl, by simp only [st_int, st_bool, st_str, st_nils, st_lst, st_agg, st_tup, st_fn, st1_int, st1_bool, st1_str, st1_nils, st1_lst, st2_int, st2_bool, st2_str, st2_nils, st2_lst, st2_agg, List.map_cons, List.map_nil, tupled, strip_enc, strip1_enc, strip2_enc]⟩
structure Prefectref1_Cutter where
  B : Str
  deriving DecidableEq
def e_Prefectref1_Cutter (x : Prefectref1_Cutter) : PV := .agg [(.str x.B)]
theorem clean_Prefectref1_Cutter (x : Prefectref1_Cutter) : (e_Prefectref1_Cutter x).clean = true := by simp [e_Prefectref1_Cutter, PV.clean, cleanL]
theorem e_Prefectref1_Cutter_cells (x : Prefectref1_Cutter) : (e_Prefectref1_Cutter x).cells = [(.str x.B)] := rfl
theorem e_Prefectref1_Cutter_one (x : Prefectref1_Cutter) : (e_Prefectref1_Cutter x).storable = true ∧ (e_Prefectref1_Cutter x).cells.length = 1 ∧ (e_Prefectref1_Cutter x).strip = e_Prefectref1_Cutter x := ⟨rfl, rfl, by simp only [e_Prefectref1_Cutter, st_int, st_bool, st_str, st_nils, st_lst, st_agg, st_tup, st_fn, st1_int, st1_bool, st1_str, st1_nils, st1_lst, st2_int, st2_bool, st2_str, st2_nils, st2_lst, st2_agg, List.map_cons, List.map_nil, tupled, strip_enc, strip1_enc, strip2_enc]⟩
structure Api_CSN where
  Time : Int
  Seq : Int
  Rep : Int
  deriving DecidableEq
def e_Api_CSN (x : Api_CSN) : PV := .agg [(.int .i64 x.Time), (.int .i64 x.Seq), (.int .i64 x.Rep)]
theorem clean_Api_CSN (x : Api_CSN) : (e_Api_CSN x).clean = true := by simp [e_Api_CSN, PV.clean, cleanL]
theorem e_Api_CSN_cells (x : Api_CSN) : (e_Api_CSN x).cells = [(.int .i64 x.Time), (.int .i64 x.Seq), (.int .i64 x.Rep)] := rfl
theorem e_Api_CSN_one (x : Api_CSN) : (e_Api_CSN x).storable = true ∧ (e_Api_CSN x).cells.length = 3 ∧ (e_Api_CSN x).strip = e_Api_CSN x := ⟨rfl, rfl, by simp only [e_Api_CSN, st_int, st_bool, st_str, st_nils, st_lst, st_agg, st_tup, st_fn, st1_int, st1_bool, st1_str, st1_nils, st1_lst, st2_int, st2_bool, st2_str, st2_nils, st2_lst, st2_agg, List.map_cons, List.map_nil, tupled, strip_enc, strip1_enc, strip2_enc]⟩
-- 11 prefect/frame.New
/-- prefect/frame.New -/
def F11 (k : Nat) : Option Frame_Cutter :=
  some (Frame_Cutter.mk [])
theorem s11 : ∀ k : Nat, ∀ {r : Frame_Cutter}, F11 k  = some r → ∀ S : List SObj, ∃ i S', evw env 11 [] S = some (.ptr i 0, S', false) ∧ Hp S [] S' [(i, [(.str r.s_)])] [] := by
  intro k  r h S
  unfold F11 at h
  refine evw_newW (pf := fn11) rfl rfl rfl (Nat.le_of_ble_eq_true rfl) rfl ?_ S
  intro S0
  refine WB.of (pf := fn11) rfl ?_
  have H := Hp.start S0
  refine WC.seqR ?_
  refine WO.step (v := .nilp) rfl rfl ?_
  refine WO.nil ?_
  refine WC.seqR ?_
  refine WO.step (v := (.agg [(.str [])])) rfl (stp_build (ti := ty68) rfl rfl rfl rfl rfl rfl) ?_
  refine WO.box' rfl rfl rfl rfl H ?_
  intro i1 S hi1 H
  refine WO.step (v := (.ptr i1 0)) rfl rfl ?_
  refine WO.nil ?_
  refine WC.ret ?_
  obtain rfl := Option.some.inj h
  refine KB.ret (vs := [(.ptr i1 0)]) (res_tmp rfl res_nil) ?_
  exact ⟨_, rfl, rfl, H.sub (.cons_cons _ .slnil) .slnil⟩
-- 12 (*prefect/frame.Cutter).Feed
/-- (*prefect/frame.Cutter).Feed -/
def F12 (k : Nat) (a0 : Frame_Cutter) (a1 : Str) : Option (Frame_Cutter × Int) :=
  if decide ((Str.len a1) > (sb .i64 16000 (Str.len a0.s_))) then
  some (a0, 13)
  else
  Option.bind (Str.app? a0.s_ a1) fun z2 =>
  some ((Frame_Cutter.mk z2), 0)
theorem s12 : ∀ k : Nat, ∀ {a0 : Frame_Cutter} {a1 : Str} {r : Frame_Cutter × Int}, F12 k a0 a1 = some r → ∀ {id : Nat} {S : List SObj}, S[id]? = some (.cells [(.str a0.s_)]) → evw env 12 [.ptr id 0, (.str a1)] S = some ((.int .i64 r.2), S.set id (.cells [(.str r.1.s_)]), false) := by
  intro k a0 a1 r h id S0 hS
  unfold F12 at h
  refine evw_recvW (pf := fn12) rfl rfl (Nat.le_of_ble_eq_true rfl) rfl ?_
  refine WB.of (pf := fn12) rfl ?_
  have H := Hp.start1 hS
  refine WC.seqR ?_
  refine WO.step (v := (.int .i64 0)) rfl rfl ?_
  refine WO.nil ?_
  refine WC.seq ?_
  refine WC.seqR ?_
  refine WO.step (v := (.str a1)) rfl rfl ?_
  refine WO.step (v := (.int .i64 (Str.len a1))) rfl rfl ?_
  refine WO.step (v := (.ptr id 0)) rfl rfl ?_
  refine WO.step (v := (.ptr id 0)) rfl rfl ?_
  refine WO.step (v := (.ptr id 0)) rfl rfl ?_
  refine WO.step (v := (.str a0.s_)) rfl (stp_load rfl (H.get 0 rfl) rfl) ?_
  refine WO.step (v := (.int .i64 (Str.len a0.s_))) rfl rfl ?_
  refine WO.step (v := (.int .i64 (sb .i64 16000 (Str.len a0.s_)))) rfl rfl ?_
  refine WO.step (v := (.bool (decide ((Str.len a1) > (sb .i64 16000 (Str.len a0.s_)))))) rfl rfl ?_
  refine WO.nil ?_
  rcases iteS h with ⟨hc3, h⟩ | ⟨hc3, h⟩
  · refine WC.condT rfl hc3 ?_
    refine WC.seqR ?_
    refine WO.step (v := (.int .i64 13)) rfl rfl ?_
    refine WO.nil ?_
    refine WC.ret ?_
    refine KX.seq_r ?_
    obtain rfl := Option.some.inj h
    refine KB.ret (vs := [(.int .i64 13)]) (res_tmp rfl res_nil) ?_
    exact leave_hp hS H 0 rfl rfl rfl
  · refine WC.condF rfl hc3 ?_
    refine WC.skip ?_
    refine KX.seq_n ?_
    refine WC.seqR ?_
    refine WO.step (v := (.ptr id 0)) rfl rfl ?_
    refine WO.step (v := (.ptr id 0)) rfl rfl ?_
    refine WO.step (v := (.ptr id 0)) rfl rfl ?_
    refine WO.step (v := (.str a0.s_)) rfl (stp_load rfl (H.get 0 rfl) rfl) ?_
    refine WO.step (v := (.str a1)) rfl rfl ?_
    obtain ⟨z2, hz2, h⟩ := bindS h
    refine WO.step (v := (.str z2)) rfl (stp_strApp rfl rfl hz2) ?_
    refine WO.step (v := (.ptr id 0)) rfl rfl ?_
    refine WO.step (v := (.ptr id 0)) rfl rfl ?_
    refine WO.store 0 rfl H rfl rfl rfl rfl rfl rfl rfl (Nat.le_of_ble_eq_true rfl) rfl (clean_e rfl) ?_
    intro S H
    replace H : Hp S0 [id] _ [(id, [(.str z2)])] [] := H
    refine WO.nil ?_
    refine WC.seqR ?_
    refine WO.step (v := (.int .i64 0)) rfl rfl ?_
    refine WO.nil ?_
    refine WC.ret ?_
    obtain rfl := Option.some.inj h
    refine KB.ret (vs := [(.int .i64 0)]) (res_tmp rfl res_nil) ?_
    exact leave_hp hS H 0 rfl rfl rfl
-- 41 prefect/ber.Head
def F41_L4 (k : Nat) (a349 : Int) (a350 : Sl Int) (a352 : Int) : Nat → Int → Int → Option (Int × Int)
  | 0, _, _ => none
  | n + 1, x348, x353 =>
    if decide (x353 < a352) then
    Option.bind (Sl.at? a350 x353) fun y357 =>
    Option.bind (shl? .i64 x348 8) fun z358 =>
    F41_L4 k a349 a350 a352 n (bOr .i64 z358 (cv .i64 y357)) (ad .i64 x353 1)
    else
    some (x348, x353)
/-- prefect/ber.Head -/
def F41 (k : Nat) (a0 : Str) : Option (Int × Int × Int) :=
  if a0 == [] then
  some (0, 0, 10)
  else
  Option.bind (Str.at? a0 0) fun c2 =>
  if (bAnd .u8 c2 31) == 31 then
  some (0, 0, 14)
  else
  if (Str.len a0) == 1 then
  some (0, 0, 10)
  else
  Option.bind (Str.at? a0 1) fun c5 =>
  Option.bind (if ((cv .i64 c5) == 128) || (decide ((cv .i64 c5) > 132)) then
  some (Out.ret (0, 0, 11))
  else
  if decide ((cv .i64 c5) > 128) then
  if decide ((Str.len a0) < (ad .i64 2 (sb .i64 (cv .i64 c5) 128))) then
  some (Out.ret (0, 0, 10))
  else
  Option.bind (Str.sub? a0 2 (ad .i64 2 (sb .i64 (cv .i64 c5) 128))) fun z324 =>
  Option.bind (F41_L4 k (sb .i64 (cv .i64 c5) 128) (Str.bytes z324) (Sl.len (Str.bytes z324)) k 0 0) fun y360 =>
  some (Out.brk (y360.1, sb .i64 (cv .i64 c5) 128))
  else
  some (Out.brk (cv .i64 c5, 0))) fun y304 =>
  match y304 with
  | .ret r => some r
  | .brk y304b =>
  if decide (y304b.1 > 4000) then
  some (0, 0, 13)
  else
  some (ad .i64 2 y304b.2, y304b.1, 0)
theorem l41_L4 {k : Nat} {a349 : Int} {a350 : Sl Int} {a352 : Int} {S0 : List SObj} {R : List Nat} {K : KX} {v351 : PV} (hv351 : IsSl (eI .u8) a350 v351)  {o : (Int × Int)}
    (hbrk : ∀ {σ' : Nat → PV} {S' : List SObj}, Known [(5, (.int .i64 o.1)), (6, (.int .i64 a349)), (44, (.int .i64 o.2))] σ' → Hp S0 R S' [] [] → K (.exit 4) σ' S' false) :
    ∀ {n : Nat} {x348 : Int} {x353 : Int}, F41_L4 k a349 a350 a352 n x348 x353 = some o → ∀ {σ : Nat → PV} {S : List SObj}, Known [(5, (.int .i64 x348)), (6, (.int .i64 a349)), (42, v351), (43, (.int .i64 a352)), (44, (.int .i64 x353))] σ → Hp S0 R S [] [] → WC env ⟨59, S0.length⟩ (.loop pc41L4) σ S false K := by
  intro n
  induction n with
  | zero => intro _ _ h; cases h
  | succ n ih =>
    intro x348 x353 h σ S  hk H
    rw [F41_L4] at h
    refine WC.loop ?_
    refine WC.of_known hk ?_
    refine WC.seqR ?_
    refine WO.step (v := (.bool (decide (x353 < a352)))) rfl rfl ?_
    refine WO.nil ?_
    refine WC.seq ?_
    rcases iteS h with ⟨hc359, h⟩ | ⟨hc359, h⟩
    · refine WC.condT rfl hc359 ?_
      refine WC.skip ?_
      refine KX.seq_n ?_
      refine WC.seq ?_
      refine WC.block ?_
      refine WC.seqR ?_
      obtain ⟨y357, hy357, h⟩ := bindS h
      refine WO.step (v := (.iptr [(.int .u8 y357)] 0)) rfl (stp_idxAddr rfl hv351 rfl rfl rfl hy357 rfl rfl) ?_
      refine WO.step (v := (.int .u8 y357)) rfl rfl ?_
      refine WO.step (v := (.int .u8 y357)) rfl rfl ?_
      refine WO.nil ?_
      refine WC.region ?_
      refine WO.step (v := (.int .i64 x348)) rfl rfl ?_
      obtain ⟨z358, hz358, h⟩ := bindS h
      refine WO.step (v := (.int .i64 z358)) rfl (stp_shl rfl rfl hz358) ?_
      refine WO.step (v := (.int .u8 y357)) rfl rfl ?_
      refine WO.step (v := (.int .i64 (cv .i64 y357))) rfl rfl ?_
      refine WO.step (v := (.int .i64 (bOr .i64 z358 (cv .i64 y357)))) rfl rfl ?_
      refine WO.step (v := (.int .i64 (bOr .i64 z358 (cv .i64 y357)))) rfl rfl ?_
      refine WO.nil ?_
      refine KX.block_n ?_
      refine KX.seq_n ?_
      refine WC.region ?_
      refine WO.step (v := (.int .i64 (ad .i64 x353 1))) rfl rfl ?_
      refine WO.step (v := (.int .i64 (ad .i64 x353 1))) rfl rfl ?_
      refine WO.nil ?_
      refine KX.seq_n ?_
      exact ih h  (known_cons rfl (known_cons rfl (known_cons rfl (known_cons rfl (known_cons rfl known_nil))))) (H.sub .slnil .slnil)
    · refine WC.condF rfl hc359 ?_
      refine WC.exit ?_
      refine KX.seq_x ?_
      refine KX.seq_x ?_
      obtain rfl := Option.some.inj h
      exact hbrk  (known_cons rfl (known_cons rfl (known_cons rfl known_nil))) (H.sub .slnil .slnil)
theorem s41 : ∀ k : Nat, ∀ {a0 : Str} {r : Int × Int × Int}, F41 k a0 = some r → ∀ {vs : List PV}, vs.map PV.strip = [(.str a0)] → ∀ S : List SObj, evw env 41 vs S = some ((.tup [(.int .i64 r.1), (.int .i64 r.2.1), (.int .i64 r.2.2)]), S, false) := by
  intro k a0 r h vs ha S
  unfold F41 at h
  refine evw_pureW (pf := fn41) rfl rfl ha (Nat.le_of_ble_eq_true rfl) rfl rfl ?_
  refine WB.of (pf := fn41) rfl ?_
  have H := Hp.start []
  refine WC.seqR ?_
  refine WO.step (v := (.int .i64 0)) rfl rfl ?_
  refine WO.step (v := (.int .i64 0)) rfl rfl ?_
  refine WO.step (v := (.int .i64 0)) rfl rfl ?_
  refine WO.nil ?_
  refine WC.seq ?_
  refine WC.seqR ?_
  refine WO.step (v := (.str a0)) rfl rfl ?_
  refine WO.step (v := (.bool (a0 == []))) rfl rfl ?_
  refine WO.nil ?_
  rcases iteS h with ⟨hc368, h⟩ | ⟨hc368, h⟩
  · refine WC.condT rfl hc368 ?_
    refine WC.seqR ?_
    refine WO.step (v := (.int .i64 0)) rfl rfl ?_
    refine WO.step (v := (.int .i64 0)) rfl rfl ?_
    refine WO.step (v := (.int .i64 10)) rfl rfl ?_
    refine WO.nil ?_
    refine WC.ret ?_
    refine KX.seq_r ?_
    obtain rfl := Option.some.inj h
    refine KB.ret (vs := [(.int .i64 0), (.int .i64 0), (.int .i64 10)]) (res_tmp rfl (res_tmp rfl (res_tmp rfl res_nil))) ?_
    exact rfl
  · refine WC.condF rfl hc368 ?_
    refine WC.skip ?_
    refine KX.seq_n ?_
    refine WC.seq ?_
    refine WC.seqR ?_
    refine WO.step (v := (.str a0)) rfl rfl ?_
    obtain ⟨c2, hc2, h⟩ := bindS h
    refine WO.step (v := (.int .u8 c2)) rfl (stp_idxStr rfl rfl rfl hc2) ?_
    refine WO.step (v := (.int .u8 (bAnd .u8 c2 31))) rfl rfl ?_
    refine WO.step (v := (.bool ((bAnd .u8 c2 31) == 31))) rfl rfl ?_
    refine WO.nil ?_
    rcases iteS h with ⟨hc367, h⟩ | ⟨hc367, h⟩
    · refine WC.condT rfl hc367 ?_
      refine WC.seqR ?_
      refine WO.step (v := (.int .i64 0)) rfl rfl ?_
      refine WO.step (v := (.int .i64 0)) rfl rfl ?_
      refine WO.step (v := (.int .i64 14)) rfl rfl ?_
      refine WO.nil ?_
      refine WC.ret ?_
      refine KX.seq_r ?_
      obtain rfl := Option.some.inj h
      refine KB.ret (vs := [(.int .i64 0), (.int .i64 0), (.int .i64 14)]) (res_tmp rfl (res_tmp rfl (res_tmp rfl res_nil))) ?_
      exact rfl
    · refine WC.condF rfl hc367 ?_
      refine WC.skip ?_
      refine KX.seq_n ?_
      refine WC.seq ?_
      refine WC.seqR ?_
      refine WO.step (v := (.str a0)) rfl rfl ?_
      refine WO.step (v := (.int .i64 (Str.len a0))) rfl rfl ?_
      refine WO.step (v := (.bool ((Str.len a0) == 1))) rfl rfl ?_
      refine WO.nil ?_
      rcases iteS h with ⟨hc366, h⟩ | ⟨hc366, h⟩
      · refine WC.condT rfl hc366 ?_
        refine WC.seqR ?_
        refine WO.step (v := (.int .i64 0)) rfl rfl ?_
        refine WO.step (v := (.int .i64 0)) rfl rfl ?_
        refine WO.step (v := (.int .i64 10)) rfl rfl ?_
        refine WO.nil ?_
        refine WC.ret ?_
        refine KX.seq_r ?_
        obtain rfl := Option.some.inj h
        refine KB.ret (vs := [(.int .i64 0), (.int .i64 0), (.int .i64 10)]) (res_tmp rfl (res_tmp rfl (res_tmp rfl res_nil))) ?_
        exact rfl
      · refine WC.condF rfl hc366 ?_
        refine WC.skip ?_
        refine KX.seq_n ?_
        refine WC.seqR ?_
        refine WO.step (v := (.str a0)) rfl rfl ?_
        obtain ⟨c5, hc5, h⟩ := bindS h
        refine WO.step (v := (.int .u8 c5)) rfl (stp_idxStr rfl rfl rfl hc5) ?_
        refine WO.step (v := (.int .i64 (cv .i64 c5))) rfl rfl ?_
        refine WO.step (v := (.int .i64 (cv .i64 c5))) rfl rfl ?_
        refine WO.nil ?_
        refine WC.seqR ?_
        refine WO.step (v := (.int .i64 0)) rfl rfl ?_
        refine WO.nil ?_
        refine WC.seq ?_
        refine WC.block ?_
        refine WC.seq ?_
        obtain ⟨y304, hy304, hOy304⟩ := bindS h
        refine WC.join (fun σ' S' e' => ∃ y304b, y304 = .brk y304b ∧ Known ([(5, (.int .i64 y304b.1)), (6, (.int .i64 y304b.2))]) σ' ∧ Hp [] [] S' [] [] ∧ e' = false) ?_ ?_
        · replace h := hy304
          refine WC.block ?_
          refine WC.seq ?_
          refine WC.block ?_
          refine WC.seq ?_
          refine WC.block ?_
          refine WC.seq ?_
          refine WC.seq ?_
          refine WC.seqR ?_
          refine WO.step (v := (.int .i64 (cv .i64 c5))) rfl rfl ?_
          refine WO.step (v := (.bool ((cv .i64 c5) == 128))) rfl rfl ?_
          refine WO.step (v := (.bool ((cv .i64 c5) == 128))) rfl rfl ?_
          refine WO.split 3 (fun σ' S' e' => Known ([(0, (.str a0)), (5, (.int .i64 (cv .i64 c5))), (6, (.int .i64 0)), (27, (.bool (((cv .i64 c5) == 128) || (decide ((cv .i64 c5) > 132)))))]) σ' ∧ Hp [] [] S' [] [] ∧ e' = false) ?_ ?_
          · cases hc320 : ((cv .i64 c5) == 128)
            · skip
              refine WO.go0 rfl rfl ?_
              refine WO.step (v := (.int .i64 (cv .i64 c5))) rfl rfl ?_
              refine WO.go0 rfl rfl ?_
              refine WO.step (v := (.bool (decide ((cv .i64 c5) > 132)))) rfl rfl ?_
              refine WO.step (v := (.bool (decide ((cv .i64 c5) > 132)))) rfl rfl ?_
              refine WO.nil ?_
              exact ⟨(known_cons rfl (known_cons rfl (known_cons rfl (known_cons rfl known_nil)))), H, rfl⟩
            · skip
              refine WO.by rfl rfl rfl ?_
              refine WO.by rfl rfl rfl ?_
              refine WO.step (v := (.bool true)) rfl rfl ?_
              refine WO.nil ?_
              exact ⟨(known_cons rfl (known_cons rfl (known_cons rfl (known_cons rfl known_nil)))), H, rfl⟩
          · rintro σ S e ⟨hk, H, rfl⟩
            refine WO.of_known hk ?_
            refine WO.step (v := (.bool (((cv .i64 c5) == 128) || (decide ((cv .i64 c5) > 132))))) rfl rfl ?_
            refine WO.nil ?_
            rcases iteS h with ⟨hc363, h⟩ | ⟨hc363, h⟩
            · refine WC.condT rfl hc363 ?_
              refine WC.exit ?_
              refine KX.seq_x ?_
              refine KX.seq_x ?_
              refine KX.block_x ?_
              refine KX.seq_n ?_
              refine WC.seq ?_
              refine WC.seqR ?_
              refine WO.step (v := (.int .i64 0)) rfl rfl ?_
              refine WO.step (v := (.int .i64 0)) rfl rfl ?_
              refine WO.step (v := (.int .i64 11)) rfl rfl ?_
              refine WO.nil ?_
              refine WC.ret ?_
              refine KX.seq_r ?_
              refine KX.block_r ?_
              refine KX.seq_r ?_
              refine KX.block_r ?_
              refine KX.seq_r ?_
              obtain rfl := Option.some.inj h
              replace h := hOy304
              refine KX.seq_r ?_
              refine KX.block_r ?_
              refine KX.seq_r ?_
              obtain rfl := Option.some.inj h
              refine KB.ret (vs := [(.int .i64 0), (.int .i64 0), (.int .i64 11)]) (res_tmp rfl (res_tmp rfl (res_tmp rfl res_nil))) ?_
              exact rfl
            · refine WC.condF rfl hc363 ?_
              refine WC.skip ?_
              refine KX.seq_n ?_
              refine WC.seqR ?_
              refine WO.step (v := (.int .i64 (cv .i64 c5))) rfl rfl ?_
              refine WO.step (v := (.bool (decide ((cv .i64 c5) > 128)))) rfl rfl ?_
              refine WO.step (v := (.bool (decide ((cv .i64 c5) > 128)))) rfl rfl ?_
              refine WO.nil ?_
              rcases iteS h with ⟨hc362, h⟩ | ⟨hc362, h⟩
              · refine WC.condT rfl hc362 ?_
                refine WC.exit ?_
                refine KX.seq_x ?_
                refine KX.block_y rfl ?_
                refine KX.seq_x ?_
                refine KX.block_x ?_
                refine KX.seq_n ?_
                refine WC.seqR ?_
                refine WO.step (v := (.int .i64 (cv .i64 c5))) rfl rfl ?_
                refine WO.step (v := (.int .i64 (sb .i64 (cv .i64 c5) 128))) rfl rfl ?_
                refine WO.step (v := (.int .i64 (sb .i64 (cv .i64 c5) 128))) rfl rfl ?_
                refine WO.nil ?_
                refine WC.seq ?_
                refine WC.seqR ?_
                refine WO.step (v := (.str a0)) rfl rfl ?_
                refine WO.step (v := (.int .i64 (Str.len a0))) rfl rfl ?_
                refine WO.step (v := (.int .i64 (sb .i64 (cv .i64 c5) 128))) rfl rfl ?_
                refine WO.step (v := (.int .i64 (ad .i64 2 (sb .i64 (cv .i64 c5) 128)))) rfl rfl ?_
                refine WO.step (v := (.bool (decide ((Str.len a0) < (ad .i64 2 (sb .i64 (cv .i64 c5) 128)))))) rfl rfl ?_
                refine WO.nil ?_
                rcases iteS h with ⟨hc361, h⟩ | ⟨hc361, h⟩
                · refine WC.condT rfl hc361 ?_
                  refine WC.seqR ?_
                  refine WO.step (v := (.int .i64 0)) rfl rfl ?_
                  refine WO.step (v := (.int .i64 0)) rfl rfl ?_
                  refine WO.step (v := (.int .i64 10)) rfl rfl ?_
                  refine WO.nil ?_
                  refine WC.ret ?_
                  refine KX.seq_r ?_
                  refine KX.block_r ?_
                  refine KX.seq_r ?_
                  obtain rfl := Option.some.inj h
                  replace h := hOy304
                  refine KX.seq_r ?_
                  refine KX.block_r ?_
                  refine KX.seq_r ?_
                  obtain rfl := Option.some.inj h
                  refine KB.ret (vs := [(.int .i64 0), (.int .i64 0), (.int .i64 10)]) (res_tmp rfl (res_tmp rfl (res_tmp rfl res_nil))) ?_
                  exact rfl
                · refine WC.condF rfl hc361 ?_
                  refine WC.skip ?_
                  refine KX.seq_n ?_
                  refine WC.seqR ?_
                  refine WO.step (v := (.int .i64 0)) rfl rfl ?_
                  refine WO.nil ?_
                  refine WC.seqR ?_
                  refine WO.step (v := (.str a0)) rfl rfl ?_
                  refine WO.step (v := (.int .i64 (sb .i64 (cv .i64 c5) 128))) rfl rfl ?_
                  refine WO.step (v := (.int .i64 (ad .i64 2 (sb .i64 (cv .i64 c5) 128)))) rfl rfl ?_
                  obtain ⟨z324, hz324, h⟩ := bindS h
                  refine WO.step (v := (.str z324)) rfl (stp_subStr rfl rfl rfl rfl hz324) ?_
                  refine WO.ex rfl (stp_bytes rfl rfl rfl rfl H) ?_
                  rintro v325 S ⟨hv325, H⟩
                  replace H : Hp [] [] _ [] [(v325, 1)] := H
                  refine WO.step (v := (.int .i64 (Sl.len (Str.bytes z324)))) rfl (stp_len rfl hv325 rfl) ?_
                  refine WO.step (v := (.int .i64 0)) rfl rfl ?_
                  refine WO.nil ?_
                  obtain ⟨y360, hy360, hOy360⟩ := bindS h
                  refine WC.block ?_
                  refine l41_L4 (hv325) ?_ hy360  (known_cons rfl (known_cons rfl (known_cons rfl (known_cons rfl (known_cons rfl known_nil))))) (H.sub .slnil (.cons _ .slnil))
                  · intro σ S  hk H; replace h := hOy360
                    refine KX.of_known hk ?_
                    refine KX.block_x ?_
                    refine KX.block_n ?_
                    refine KX.seq_n ?_
                    obtain rfl := Option.some.inj h
                    exact ⟨_, rfl, (known_cons rfl (known_cons rfl known_nil)), (H.sub .slnil .slnil), rfl⟩
              · refine WC.condF rfl hc362 ?_
                refine WC.skip ?_
                refine KX.seq_n ?_
                refine WC.exit ?_
                refine KX.block_y rfl ?_
                refine KX.seq_x ?_
                refine KX.block_y rfl ?_
                refine KX.seq_x ?_
                refine KX.block_x ?_
                refine KX.seq_n ?_
                obtain rfl := Option.some.inj h
                exact ⟨_, rfl, (known_cons rfl (known_cons rfl known_nil)), (H.sub .slnil .slnil), rfl⟩
        · rintro σ S e ⟨y304b, rfl, hk, H, rfl⟩
          replace h := hOy304
          dsimp only at h
          refine KX.of_known hk ?_
          refine KX.seq_n ?_
          refine WC.seq ?_
          refine WC.seqR ?_
          refine WO.step (v := (.int .i64 y304b.1)) rfl rfl ?_
          refine WO.step (v := (.bool (decide (y304b.1 > 4000)))) rfl rfl ?_
          refine WO.nil ?_
          rcases iteS h with ⟨hc365, h⟩ | ⟨hc365, h⟩
          · refine WC.condT rfl hc365 ?_
            refine WC.seqR ?_
            refine WO.step (v := (.int .i64 0)) rfl rfl ?_
            refine WO.step (v := (.int .i64 0)) rfl rfl ?_
            refine WO.step (v := (.int .i64 13)) rfl rfl ?_
            refine WO.nil ?_
            refine WC.ret ?_
            refine KX.seq_r ?_
            refine KX.block_r ?_
            refine KX.seq_r ?_
            obtain rfl := Option.some.inj h
            refine KB.ret (vs := [(.int .i64 0), (.int .i64 0), (.int .i64 13)]) (res_tmp rfl (res_tmp rfl (res_tmp rfl res_nil))) ?_
            exact rfl
          · refine WC.condF rfl hc365 ?_
            refine WC.skip ?_
            refine KX.seq_n ?_
            refine WC.exit ?_
            refine KX.block_x ?_
            refine KX.seq_n ?_
            refine WC.seqR ?_
            refine WO.step (v := (.int .i64 y304b.2)) rfl rfl ?_
            refine WO.step (v := (.int .i64 (ad .i64 2 y304b.2))) rfl rfl ?_
            refine WO.step (v := (.int .i64 y304b.1)) rfl rfl ?_
            refine WO.step (v := (.int .i64 (ad .i64 2 y304b.2))) rfl rfl ?_
            refine WO.step (v := (.int .i64 y304b.1)) rfl rfl ?_
            refine WO.step (v := (.int .i64 0)) rfl rfl ?_
            refine WO.nil ?_
            refine WC.ret ?_
            obtain rfl := Option.some.inj h
            refine KB.ret (vs := [(.int .i64 (ad .i64 2 y304b.2)), (.int .i64 y304b.1), (.int .i64 0)]) (res_tmp rfl (res_tmp rfl (res_tmp rfl res_nil))) ?_
            exact rfl
-- 13 (*prefect/frame.Cutter).Next
/-- (*prefect/frame.Cutter).Next -/
def F13 (k : Nat) (a0 : Frame_Cutter) : Option (Frame_Cutter × Str × Int) :=
  Option.bind (F41 k a0.s_) fun y1 =>
  Option.bind (if (y1.2.2 == 0) && (decide (y1.2.1 > (sb .i64 (Str.len a0.s_) y1.1))) then
  some 10
  else
  some y1.2.2) fun y5 =>
  if !(y5 == 0) then
  some (a0, [], y5)
  else
  Option.bind (Str.sub? a0.s_ 0 (ad .i64 y1.1 y1.2.1)) fun z8 =>
  Option.bind (Str.sub? a0.s_ (ad .i64 y1.1 y1.2.1) (Str.len a0.s_)) fun z9 =>
  some ((Frame_Cutter.mk z9), z8, 0)
theorem s13 : ∀ k : Nat, ∀ {a0 : Frame_Cutter} {r : Frame_Cutter × Str × Int}, F13 k a0 = some r → ∀ {id : Nat} {S : List SObj}, S[id]? = some (.cells [(.str a0.s_)]) → evw env 13 [.ptr id 0] S = some ((.tup [(.str r.2.1), (.int .i64 r.2.2)]), S.set id (.cells [(.str r.1.s_)]), false) := by
  intro k a0 r h id S0 hS
  unfold F13 at h
  refine evw_recvW (pf := fn13) rfl rfl (Nat.le_of_ble_eq_true rfl) rfl ?_
  refine WB.of (pf := fn13) rfl ?_
  have H := Hp.start1 hS
  refine WC.seqR ?_
  refine WO.step (v := (.str [])) rfl rfl ?_
  refine WO.step (v := (.int .i64 0)) rfl rfl ?_
  refine WO.nil ?_
  refine WC.seqR ?_
  refine WO.step (v := (.ptr id 0)) rfl rfl ?_
  refine WO.step (v := (.ptr id 0)) rfl rfl ?_
  refine WO.step (v := (.ptr id 0)) rfl rfl ?_
  refine WO.step (v := (.str a0.s_)) rfl (stp_load rfl (H.get 0 rfl) rfl) ?_
  obtain ⟨y1, hy1, h⟩ := bindS h
  refine WO.step (v := (.tup [(.int .i64 y1.1), (.int .i64 y1.2.1), (.int .i64 y1.2.2)])) rfl (stp_call (vs := [(.str a0.s_)]) rfl rfl (s41 _ hy1 rfl _)) ?_
  refine WO.step (v := (.tup [(.int .i64 y1.1), (.int .i64 y1.2.1), (.int .i64 y1.2.2)])) rfl rfl ?_
  refine WO.step (v := (.int .i64 y1.1)) rfl rfl ?_
  refine WO.step (v := (.int .i64 y1.2.1)) rfl rfl ?_
  refine WO.step (v := (.int .i64 y1.2.2)) rfl rfl ?_
  refine WO.step (v := (.int .i64 y1.1)) rfl rfl ?_
  refine WO.step (v := (.int .i64 y1.2.1)) rfl rfl ?_
  refine WO.step (v := (.int .i64 y1.2.2)) rfl rfl ?_
  refine WO.nil ?_
  refine WC.seq ?_
  refine WC.seqR ?_
  refine WO.step (v := (.int .i64 y1.2.2)) rfl rfl ?_
  refine WO.step (v := (.ifc 32 (.int .i64 y1.2.2))) rfl rfl ?_
  refine WO.step (v := (.ifc 32 (.int .i64 0))) rfl rfl ?_
  refine WO.step (v := (.bool (y1.2.2 == 0))) rfl (stp_call (vs := [(.ifc 32 (.int .i64 y1.2.2)), (.ifc 32 (.int .i64 0))]) rfl rfl (evw_isErr rfl _ _ _)) ?_
  refine WO.step (v := (.bool (y1.2.2 == 0))) rfl rfl ?_
  refine WO.split 10 (fun σ' S' e' => Known ([(0, (.ptr id 0)), (4, (.int .i64 y1.1)), (5, (.int .i64 y1.2.1)), (6, (.int .i64 y1.2.2)), (31, (.bool ((y1.2.2 == 0) && (decide (y1.2.1 > (sb .i64 (Str.len a0.s_) y1.1))))))]) σ' ∧ Hp S0 [id] S' [(id, [(.str a0.s_)])] [] ∧ e' = false) ?_ ?_
  · cases hc2 : (y1.2.2 == 0)
    · skip
      refine WO.by rfl rfl rfl ?_
      refine WO.by rfl rfl rfl ?_
      refine WO.by rfl rfl rfl ?_
      refine WO.by rfl rfl rfl ?_
      refine WO.by rfl rfl rfl ?_
      refine WO.by rfl rfl rfl ?_
      refine WO.by rfl rfl rfl ?_
      refine WO.by rfl rfl rfl ?_
      refine WO.by rfl rfl rfl ?_
      refine WO.step (v := (.bool false)) rfl rfl ?_
      refine WO.nil ?_
      exact ⟨(known_cons rfl (known_cons rfl (known_cons rfl (known_cons rfl (known_cons rfl known_nil))))), H, rfl⟩
    · skip
      refine WO.go0 rfl rfl ?_
      refine WO.step (v := (.int .i64 y1.2.1)) rfl rfl ?_
      refine WO.go0 rfl rfl ?_
      refine WO.step (v := (.ptr id 0)) rfl rfl ?_
      refine WO.go0 rfl rfl ?_
      refine WO.step (v := (.ptr id 0)) rfl rfl ?_
      refine WO.go0 rfl rfl ?_
      refine WO.step (v := (.ptr id 0)) rfl rfl ?_
      refine WO.go0 rfl rfl ?_
      refine WO.step (v := (.str a0.s_)) rfl (stp_load rfl (H.get 0 rfl) rfl) ?_
      refine WO.go0 rfl rfl ?_
      refine WO.step (v := (.int .i64 (Str.len a0.s_))) rfl rfl ?_
      refine WO.go0 rfl rfl ?_
      refine WO.step (v := (.int .i64 y1.1)) rfl rfl ?_
      refine WO.go0 rfl rfl ?_
      refine WO.step (v := (.int .i64 (sb .i64 (Str.len a0.s_) y1.1))) rfl rfl ?_
      refine WO.go0 rfl rfl ?_
      refine WO.step (v := (.bool (decide (y1.2.1 > (sb .i64 (Str.len a0.s_) y1.1))))) rfl rfl ?_
      refine WO.step (v := (.bool (decide (y1.2.1 > (sb .i64 (Str.len a0.s_) y1.1))))) rfl rfl ?_
      refine WO.nil ?_
      exact ⟨(known_cons rfl (known_cons rfl (known_cons rfl (known_cons rfl (known_cons rfl known_nil))))), H, rfl⟩
  · rintro σ S e ⟨hk, H, rfl⟩
    refine WO.of_known hk ?_
    refine WO.nil ?_
    obtain ⟨y5, hy5, hOy5⟩ := bindS h
    refine WC.join (fun σ' S' e' => Known ([(0, (.ptr id 0)), (4, (.int .i64 y1.1)), (5, (.int .i64 y1.2.1)), (6, (.int .i64 y5))]) σ' ∧ Hp S0 [id] S' [(id, [(.str a0.s_)])] [] ∧ e' = false) ?_ ?_
    · replace h := hy5
      rcases iteS h with ⟨hc6, h⟩ | ⟨hc6, h⟩
      · refine WC.condT rfl hc6 ?_
        refine WC.region ?_
        refine WO.step (v := (.int .i64 10)) rfl rfl ?_
        refine WO.nil ?_
        refine KX.seq_n ?_
        obtain rfl := Option.some.inj h
        exact ⟨(known_cons rfl (known_cons rfl (known_cons rfl (known_cons rfl known_nil)))), (H.sub (.cons_cons _ .slnil) .slnil), rfl⟩
      · refine WC.condF rfl hc6 ?_
        refine WC.skip ?_
        refine KX.seq_n ?_
        obtain rfl := Option.some.inj h
        exact ⟨(known_cons rfl (known_cons rfl (known_cons rfl (known_cons rfl known_nil)))), (H.sub (.cons_cons _ .slnil) .slnil), rfl⟩
    · rintro σ S e ⟨hk, H, rfl⟩
      replace h := hOy5
      refine KX.of_known hk ?_
      refine KX.seq_n ?_
      refine WC.seq ?_
      refine WC.seqR ?_
      refine WO.step (v := (.int .i64 y5)) rfl rfl ?_
      refine WO.step (v := (.ifc 32 (.int .i64 y5))) rfl rfl ?_
      refine WO.step (v := (.ifc 32 (.int .i64 0))) rfl rfl ?_
      refine WO.step (v := (.bool (y5 == 0))) rfl (stp_call (vs := [(.ifc 32 (.int .i64 y5)), (.ifc 32 (.int .i64 0))]) rfl rfl (evw_isErr rfl _ _ _)) ?_
      refine WO.step (v := (.bool (!(y5 == 0)))) rfl rfl ?_
      refine WO.nil ?_
      rcases iteS h with ⟨hc10, h⟩ | ⟨hc10, h⟩
      · refine WC.condT rfl hc10 ?_
        refine WC.seqR ?_
        refine WO.step (v := (.int .i64 y5)) rfl rfl ?_
        refine WO.step (v := (.str [])) rfl rfl ?_
        refine WO.step (v := (.int .i64 y5)) rfl rfl ?_
        refine WO.nil ?_
        refine WC.ret ?_
        refine KX.seq_r ?_
        obtain rfl := Option.some.inj h
        refine KB.ret (vs := [(.str []), (.int .i64 y5)]) (res_tmp rfl (res_tmp rfl res_nil)) ?_
        exact leave_hp hS H 0 rfl rfl rfl
      · refine WC.condF rfl hc10 ?_
        refine WC.skip ?_
        refine KX.seq_n ?_
        refine WC.seqR ?_
        refine WO.step (v := (.ptr id 0)) rfl rfl ?_
        refine WO.step (v := (.ptr id 0)) rfl rfl ?_
        refine WO.step (v := (.ptr id 0)) rfl rfl ?_
        refine WO.step (v := (.str a0.s_)) rfl (stp_load rfl (H.get 0 rfl) rfl) ?_
        refine WO.step (v := (.int .i64 y1.1)) rfl rfl ?_
        refine WO.step (v := (.int .i64 y1.2.1)) rfl rfl ?_
        refine WO.step (v := (.int .i64 (ad .i64 y1.1 y1.2.1))) rfl rfl ?_
        obtain ⟨z8, hz8, h⟩ := bindS h
        refine WO.step (v := (.str z8)) rfl (stp_subStr rfl rfl rfl rfl hz8) ?_
        refine WO.step (v := (.str z8)) rfl rfl ?_
        refine WO.nil ?_
        refine WC.seqR ?_
        refine WO.step (v := (.ptr id 0)) rfl rfl ?_
        refine WO.step (v := (.ptr id 0)) rfl rfl ?_
        refine WO.step (v := (.ptr id 0)) rfl rfl ?_
        refine WO.step (v := (.ptr id 0)) rfl rfl ?_
        refine WO.step (v := (.str a0.s_)) rfl (stp_load rfl (H.get 0 rfl) rfl) ?_
        refine WO.step (v := (.int .i64 y1.1)) rfl rfl ?_
        refine WO.step (v := (.int .i64 y1.2.1)) rfl rfl ?_
        refine WO.step (v := (.int .i64 (ad .i64 y1.1 y1.2.1))) rfl rfl ?_
        obtain ⟨z9, hz9, h⟩ := bindS h
        refine WO.step (v := (.str z9)) rfl (stp_subStr rfl rfl rfl rfl hz9) ?_
        refine WO.step (v := (.ptr id 0)) rfl rfl ?_
        refine WO.step (v := (.ptr id 0)) rfl rfl ?_
        refine WO.store 0 rfl H rfl rfl rfl rfl rfl rfl rfl (Nat.le_of_ble_eq_true rfl) rfl (clean_e rfl) ?_
        intro S H
        replace H : Hp S0 [id] _ [(id, [(.str z9)])] [] := H
        refine WO.nil ?_
        refine WC.seqR ?_
        refine WO.step (v := (.str z8)) rfl rfl ?_
        refine WO.step (v := (.str z8)) rfl rfl ?_
        refine WO.step (v := (.int .i64 0)) rfl rfl ?_
        refine WO.nil ?_
        refine WC.ret ?_
        obtain rfl := Option.some.inj h
        refine KB.ret (vs := [(.str z8), (.int .i64 0)]) (res_tmp rfl (res_tmp rfl res_nil)) ?_
        exact leave_hp hS H 0 rfl rfl rfl
-- 14 (*prefect/frame.Cutter).Left
/-- (*prefect/frame.Cutter).Left -/
def F14 (k : Nat) (a0 : Frame_Cutter) : Option (Frame_Cutter × Int) :=
  some (a0, Str.len a0.s_)
theorem s14 : ∀ k : Nat, ∀ {a0 : Frame_Cutter} {r : Frame_Cutter × Int}, F14 k a0 = some r → ∀ {id : Nat} {S : List SObj}, S[id]? = some (.cells [(.str a0.s_)]) → evw env 14 [.ptr id 0] S = some ((.int .i64 r.2), S.set id (.cells [(.str r.1.s_)]), false) := by
  intro k a0 r h id S0 hS
  unfold F14 at h
  refine evw_recvW (pf := fn14) rfl rfl (Nat.le_of_ble_eq_true rfl) rfl ?_
  refine WB.of (pf := fn14) rfl ?_
  have H := Hp.start1 hS
  refine WC.seqR ?_
  refine WO.step (v := (.int .i64 0)) rfl rfl ?_
  refine WO.nil ?_
  refine WC.seqR ?_
  refine WO.step (v := (.ptr id 0)) rfl rfl ?_
  refine WO.step (v := (.ptr id 0)) rfl rfl ?_
  refine WO.step (v := (.ptr id 0)) rfl rfl ?_
  refine WO.step (v := (.str a0.s_)) rfl (stp_load rfl (H.get 0 rfl) rfl) ?_
  refine WO.step (v := (.int .i64 (Str.len a0.s_))) rfl rfl ?_
  refine WO.step (v := (.int .i64 (Str.len a0.s_))) rfl rfl ?_
  refine WO.nil ?_
  refine WC.ret ?_
  obtain rfl := Option.some.inj h
  refine KB.ret (vs := [(.int .i64 (Str.len a0.s_))]) (res_tmp rfl res_nil) ?_
  exact leave_hp hS H 0 rfl rfl rfl
-- 9 prefect/prefectlaw3.known
/-- prefect/prefectlaw3.known -/
def F9 (k : Nat) : Option Bool :=
  Option.bind (F11 k ) fun y2 =>
  Option.bind (F12 k y2 [4, 1]) fun y3 =>
  if y3.2 != 0 then
  some false
  else
  Option.bind (F13 k y3.1 ) fun y5 =>
  Option.bind (F12 k y5.1 [97, 5]) fun y6 =>
  Option.bind (F13 k y6.1 ) fun y7 =>
  Option.bind (if (((y5.2.2 == 10) && (y6.2 == 0)) && (y7.2.2 == 0)) && (y7.2.1 == [4, 1, 97]) then
  Option.bind (F14 k y7.1 ) fun y15 =>
  some (y15.2 == 1, y15.1)
  else
  some (false, y7.1)) fun y14 =>
  some y14.1
theorem s9 : ∀ k : Nat, ∀ {r : Bool}, F9 k  = some r → ∀ {vs : List PV}, vs.map PV.strip = [] → ∀ S : List SObj, evw env 9 vs S = some ((.bool r), S, false) := by
  intro k  r h vs ha S
  unfold F9 at h
  refine evw_pureW (pf := fn9) rfl rfl ha (Nat.le_of_ble_eq_true rfl) rfl rfl ?_
  refine WB.of (pf := fn9) rfl ?_
  have H := Hp.start []
  refine WC.seqR ?_
  refine WO.step (v := (.bool false)) rfl rfl ?_
  refine WO.nil ?_
  refine WC.seqR ?_
  obtain ⟨y2, hy2, h⟩ := bindS h
  refine WO.callN rfl rfl rfl H (s11 _ hy2 _) ?_
  intro i1 S hi1 H
  refine WO.step (v := (.ptr i1 0)) rfl rfl ?_
  refine WO.nil ?_
  refine WC.seq ?_
  refine WC.seqR ?_
  refine WO.step (v := (.ptr i1 0)) rfl rfl ?_
  refine WO.step (v := (.bool false)) rfl rfl ?_
  refine WO.step (v := (.bool false)) rfl rfl ?_
  refine WO.go0 rfl rfl ?_
  refine WO.step (v := (.ptr i1 0)) rfl rfl ?_
  refine WO.go0 rfl rfl ?_
  obtain ⟨y3, hy3, h⟩ := bindS h
  refine WO.callR 0 rfl rfl rfl H rfl (s12 _ hy3 (H.get 0 rfl)) ?_
  intro S H
  replace H : Hp [] [] _ [(i1, [(.str y3.1.s_)])] [] := H
  refine WO.go0 rfl rfl ?_
  refine WO.step (v := (.bool (y3.2 != 0))) rfl rfl ?_
  refine WO.step (v := (.bool (y3.2 != 0))) rfl rfl ?_
  refine WO.nil ?_
  rcases iteS h with ⟨hc17, h⟩ | ⟨hc17, h⟩
  · refine WC.condT rfl hc17 ?_
    refine WC.seqR ?_
    refine WO.step (v := (.bool false)) rfl rfl ?_
    refine WO.nil ?_
    refine WC.ret ?_
    refine KX.seq_r ?_
    obtain rfl := Option.some.inj h
    refine KB.ret (vs := [(.bool false)]) (res_tmp rfl res_nil) ?_
    exact rfl
  · refine WC.condF rfl hc17 ?_
    refine WC.skip ?_
    refine KX.seq_n ?_
    refine WC.seqR ?_
    refine WO.step (v := (.ptr i1 0)) rfl rfl ?_
    obtain ⟨y5, hy5, h⟩ := bindS h
    refine WO.callR 0 rfl rfl rfl H rfl (s13 _ hy5 (H.get 0 rfl)) ?_
    intro S H
    replace H : Hp [] [] _ [(i1, [(.str y5.1.s_)])] [] := H
    refine WO.step (v := (.tup [(.str y5.2.1), (.int .i64 y5.2.2)])) rfl rfl ?_
    refine WO.step (v := (.str y5.2.1)) rfl rfl ?_
    refine WO.step (v := (.int .i64 y5.2.2)) rfl rfl ?_
    refine WO.step (v := (.str y5.2.1)) rfl rfl ?_
    refine WO.step (v := (.int .i64 y5.2.2)) rfl rfl ?_
    refine WO.nil ?_
    refine WC.seqR ?_
    refine WO.step (v := (.ptr i1 0)) rfl rfl ?_
    obtain ⟨y6, hy6, h⟩ := bindS h
    refine WO.callR 0 rfl rfl rfl H rfl (s12 _ hy6 (H.get 0 rfl)) ?_
    intro S H
    replace H : Hp [] [] _ [(i1, [(.str y6.1.s_)])] [] := H
    refine WO.step (v := (.int .i64 y6.2)) rfl rfl ?_
    refine WO.nil ?_
    refine WC.seqR ?_
    refine WO.step (v := (.ptr i1 0)) rfl rfl ?_
    obtain ⟨y7, hy7, h⟩ := bindS h
    refine WO.callR 0 rfl rfl rfl H rfl (s13 _ hy7 (H.get 0 rfl)) ?_
    intro S H
    replace H : Hp [] [] _ [(i1, [(.str y7.1.s_)])] [] := H
    refine WO.step (v := (.tup [(.str y7.2.1), (.int .i64 y7.2.2)])) rfl rfl ?_
    refine WO.step (v := (.str y7.2.1)) rfl rfl ?_
    refine WO.step (v := (.int .i64 y7.2.2)) rfl rfl ?_
    refine WO.step (v := (.str y7.2.1)) rfl rfl ?_
    refine WO.step (v := (.int .i64 y7.2.2)) rfl rfl ?_
    refine WO.nil ?_
    refine WC.seqR ?_
    refine WO.step (v := (.int .i64 y5.2.2)) rfl rfl ?_
    refine WO.step (v := (.bool (y5.2.2 == 10))) rfl rfl ?_
    refine WO.step (v := (.bool (y5.2.2 == 10))) rfl rfl ?_
    refine WO.split 3 (fun σ' S' e' => Known ([(1, (.ptr i1 0)), (5, (.str y7.2.1)), (6, (.int .i64 y7.2.2)), (32, (.bool ((y5.2.2 == 10) && (y6.2 == 0))))]) σ' ∧ Hp [] [] S' [(i1, [(.str y7.1.s_)])] [] ∧ e' = false) ?_ ?_
    · cases hc8 : (y5.2.2 == 10)
      · skip
        refine WO.by rfl rfl rfl ?_
        refine WO.by rfl rfl rfl ?_
        refine WO.step (v := (.bool false)) rfl rfl ?_
        refine WO.nil ?_
        exact ⟨(known_cons rfl (known_cons rfl (known_cons rfl (known_cons rfl known_nil)))), H, rfl⟩
      · skip
        refine WO.go0 rfl rfl ?_
        refine WO.step (v := (.int .i64 y6.2)) rfl rfl ?_
        refine WO.go0 rfl rfl ?_
        refine WO.step (v := (.bool (y6.2 == 0))) rfl rfl ?_
        refine WO.step (v := (.bool (y6.2 == 0))) rfl rfl ?_
        refine WO.nil ?_
        exact ⟨(known_cons rfl (known_cons rfl (known_cons rfl (known_cons rfl known_nil)))), H, rfl⟩
    · rintro σ S e ⟨hk, H, rfl⟩
      refine WO.of_known hk ?_
      refine WO.step (v := (.bool ((y5.2.2 == 10) && (y6.2 == 0)))) rfl rfl ?_
      refine WO.split 3 (fun σ' S' e' => Known ([(1, (.ptr i1 0)), (5, (.str y7.2.1)), (36, (.bool (((y5.2.2 == 10) && (y6.2 == 0)) && (y7.2.2 == 0))))]) σ' ∧ Hp [] [] S' [(i1, [(.str y7.1.s_)])] [] ∧ e' = false) ?_ ?_
      · cases hc9 : ((y5.2.2 == 10) && (y6.2 == 0))
        · skip
          refine WO.by rfl rfl rfl ?_
          refine WO.by rfl rfl rfl ?_
          refine WO.step (v := (.bool false)) rfl rfl ?_
          refine WO.nil ?_
          exact ⟨(known_cons rfl (known_cons rfl (known_cons rfl known_nil))), H, rfl⟩
        · skip
          refine WO.go0 rfl rfl ?_
          refine WO.step (v := (.int .i64 y7.2.2)) rfl rfl ?_
          refine WO.go0 rfl rfl ?_
          refine WO.step (v := (.bool (y7.2.2 == 0))) rfl rfl ?_
          refine WO.step (v := (.bool (y7.2.2 == 0))) rfl rfl ?_
          refine WO.nil ?_
          exact ⟨(known_cons rfl (known_cons rfl (known_cons rfl known_nil))), H, rfl⟩
      · rintro σ S e ⟨hk, H, rfl⟩
        refine WO.of_known hk ?_
        refine WO.step (v := (.bool (((y5.2.2 == 10) && (y6.2 == 0)) && (y7.2.2 == 0)))) rfl rfl ?_
        refine WO.split 3 (fun σ' S' e' => Known ([(1, (.ptr i1 0)), (40, (.bool ((((y5.2.2 == 10) && (y6.2 == 0)) && (y7.2.2 == 0)) && (y7.2.1 == [4, 1, 97]))))]) σ' ∧ Hp [] [] S' [(i1, [(.str y7.1.s_)])] [] ∧ e' = false) ?_ ?_
        · cases hc10 : (((y5.2.2 == 10) && (y6.2 == 0)) && (y7.2.2 == 0))
          · skip
            refine WO.by rfl rfl rfl ?_
            refine WO.by rfl rfl rfl ?_
            refine WO.step (v := (.bool false)) rfl rfl ?_
            refine WO.nil ?_
            exact ⟨(known_cons rfl (known_cons rfl known_nil)), H, rfl⟩
          · skip
            refine WO.go0 rfl rfl ?_
            refine WO.step (v := (.str y7.2.1)) rfl rfl ?_
            refine WO.go0 rfl rfl ?_
            refine WO.step (v := (.bool (y7.2.1 == [4, 1, 97]))) rfl rfl ?_
            refine WO.step (v := (.bool (y7.2.1 == [4, 1, 97]))) rfl rfl ?_
            refine WO.nil ?_
            exact ⟨(known_cons rfl (known_cons rfl known_nil)), H, rfl⟩
        · rintro σ S e ⟨hk, H, rfl⟩
          refine WO.of_known hk ?_
          refine WO.step (v := (.bool ((((y5.2.2 == 10) && (y6.2 == 0)) && (y7.2.2 == 0)) && (y7.2.1 == [4, 1, 97])))) rfl rfl ?_
          obtain ⟨y14, hy14, hOy14⟩ := bindS h
          refine WO.split 4 (fun σ' S' e' => Known ([(45, (.bool y14.1))]) σ' ∧ Hp [] [] S' [(i1, [(.str y14.2.s_)])] [] ∧ e' = false) ?_ ?_
          · replace h := hy14
            cases hc16 : ((((y5.2.2 == 10) && (y6.2 == 0)) && (y7.2.2 == 0)) && (y7.2.1 == [4, 1, 97]))
            · replace h := iteF h hc16
              refine WO.by rfl rfl rfl ?_
              refine WO.by rfl rfl rfl ?_
              refine WO.by rfl rfl rfl ?_
              refine WO.step (v := (.bool false)) rfl rfl ?_
              refine WO.nil ?_
              obtain rfl := Option.some.inj h
              exact ⟨(known_cons rfl known_nil), (H.sub (.cons_cons _ .slnil) .slnil), rfl⟩
            · replace h := iteT h hc16
              refine WO.go0 rfl rfl ?_
              refine WO.step (v := (.ptr i1 0)) rfl rfl ?_
              refine WO.go0 rfl rfl ?_
              obtain ⟨y15, hy15, h⟩ := bindS h
              refine WO.callR 0 rfl rfl rfl H rfl (s14 _ hy15 (H.get 0 rfl)) ?_
              intro S H
              replace H : Hp [] [] _ [(i1, [(.str y15.1.s_)])] [] := H
              refine WO.go0 rfl rfl ?_
              refine WO.step (v := (.bool (y15.2 == 1))) rfl rfl ?_
              refine WO.step (v := (.bool (y15.2 == 1))) rfl rfl ?_
              refine WO.nil ?_
              obtain rfl := Option.some.inj h
              exact ⟨(known_cons rfl known_nil), (H.sub (.cons_cons _ .slnil) .slnil), rfl⟩
          · rintro σ S e ⟨hk, H, rfl⟩
            replace h := hOy14
            refine WO.of_known hk ?_
            refine WO.step (v := (.bool y14.1)) rfl rfl ?_
            refine WO.nil ?_
            refine WC.ret ?_
            obtain rfl := Option.some.inj h
            refine KB.ret (vs := [(.bool y14.1)]) (res_tmp rfl res_nil) ?_
            exact rfl
-- 38 prefect/prefectref1.Right
def F38_L0 (rc0 : Api_Element → Option Bool) (k : Nat) (a35 : Api_Element) : Nat → Int → Option (Out Bool Int)
  | 0, _ => none
  | n + 1, x34 =>
    if decide (x34 < (Sl.len a35.Kids)) then
    Option.bind (Sl.at? a35.Kids x34) fun y41 =>
    Option.bind (rc0 y41) fun y42 =>
    if !y42 then
    some (Out.ret false)
    else
    F38_L0 rc0 k a35 n (ad .i64 x34 1)
    else
    some (Out.brk x34)
/-- prefect/prefectref1.Right -/
def F38 : Nat → Api_Element → Option Bool
  | 0, _ => none
  | k + 1, a0 =>
    if (((bAnd .u8 a0.Tag 31) == 31) || (((bAnd .u8 a0.Tag 32) != 0) && (!(a0.Body == [])))) || (((bAnd .u8 a0.Tag 32) == 0) && (decide ((Sl.len a0.Kids) > 0))) then
    some false
    else
    Option.bind (F38_L0 (F38 k) k a0 k 0) fun y46 =>
    match y46 with
    | .ret y46r => some y46r
    | .brk y46b =>
    some true
theorem l38_L0 {rc0 : Api_Element → Option Bool} (hrc0 : ∀ {a0 : Api_Element} {r : Bool}, rc0 a0 = some r → ∀ {vs : List PV}, vs.map PV.strip = [(.agg [(.int .u8 a0.Tag), (.str a0.Body), (encSl e_Api_Element a0.Kids)])] → ∀ S : List SObj, evw env 38 vs S = some ((.bool r), S, false)) {k : Nat} {a35 : Api_Element} {S0 : List SObj} {R : List Nat} {K : KX} {i1 : Nat} (hi1 : S0.length ≤ i1)  {o : Out Bool Int}
    (hret : ∀ r : Bool, o = .ret r → ∀ {σ' : Nat → PV} {S' : List SObj}, Known [(2, (.bool r))] σ' → Hp S0 R S' [] [] → K .ret σ' S' false)
    (hbrk : ∀ y : Int, o = .brk y → ∀ {σ' : Nat → PV} {S' : List SObj}, Known [(3, (.int .i64 y))] σ' → Hp S0 R S' [(i1, [(.int .u8 a35.Tag), (.str a35.Body), (encSl e_Api_Element a35.Kids)])] [] → K (.exit 0) σ' S' false) :
    ∀ {n : Nat} {x34 : Int}, F38_L0 rc0 k a35 n x34 = some o → ∀ {σ : Nat → PV} {S : List SObj}, Known [(1, (.ptr i1 0)), (3, (.int .i64 x34))] σ → Hp S0 R S [(i1, [(.int .u8 a35.Tag), (.str a35.Body), (encSl e_Api_Element a35.Kids)])] [] → WC env ⟨45, S0.length⟩ (.loop pc38L0) σ S false K := by
  intro n
  induction n with
  | zero => intro _ h; cases h
  | succ n ih =>
    intro x34 h σ S  hk H
    rw [F38_L0] at h
    refine WC.loop ?_
    refine WC.of_known hk ?_
    refine WC.seq ?_
    refine WC.seqR ?_
    refine WO.step (v := (.int .i64 x34)) rfl rfl ?_
    refine WO.step (v := (.ptr i1 2)) rfl rfl ?_
    refine WO.step (v := (encSl e_Api_Element a35.Kids)) rfl (stp_load rfl (H.get 0 rfl) rfl) ?_
    refine WO.step (v := (.int .i64 (Sl.len a35.Kids))) rfl (stp_len rfl (isSl_enc _ _) rfl) ?_
    refine WO.step (v := (.bool (decide (x34 < (Sl.len a35.Kids))))) rfl rfl ?_
    refine WO.nil ?_
    rcases iteS h with ⟨hc45, h⟩ | ⟨hc45, h⟩
    · refine WC.condT rfl hc45 ?_
      refine WC.skip ?_
      refine KX.seq_n ?_
      refine WC.seq ?_
      refine WC.block ?_
      refine WC.seqR ?_
      refine WO.step (v := (.ptr i1 2)) rfl rfl ?_
      refine WO.step (v := (encSl e_Api_Element a35.Kids)) rfl (stp_load rfl (H.get 0 rfl) rfl) ?_
      refine WO.step (v := (.int .i64 x34)) rfl rfl ?_
      obtain ⟨y41, hy41, h⟩ := bindS h
      refine WO.step (v := (.iptr [(.int .u8 y41.Tag), (.str y41.Body), (encSl e_Api_Element y41.Kids)] 0)) rfl (stp_idxAddr rfl (isSl_enc _ _) rfl rfl rfl hy41 (e_Api_Element_cells _) rfl) ?_
      refine WO.step (v := (.agg [(.int .u8 y41.Tag), (.str y41.Body), (encSl e_Api_Element y41.Kids)])) rfl rfl ?_
      obtain ⟨y42, hy42, h⟩ := bindS h
      refine WO.step (v := (.bool y42)) rfl (stp_call (vs := [(.agg [(.int .u8 y41.Tag), (.str y41.Body), (encSl e_Api_Element y41.Kids)])]) rfl rfl (hrc0 hy42 (by simp only [st_agg, List.map_cons, List.map_nil, st1_int, st1_str, strip1_enc, e_Api_Element_eq, tupled]) _)) ?_
      refine WO.step (v := (.bool (!y42))) rfl rfl ?_
      refine WO.nil ?_
      rcases iteS h with ⟨hc44, h⟩ | ⟨hc44, h⟩
      · refine WC.condT rfl hc44 ?_
        refine WC.seqR ?_
        refine WO.step (v := (.bool false)) rfl rfl ?_
        refine WO.nil ?_
        refine WC.ret ?_
        refine KX.block_r ?_
        refine KX.seq_r ?_
        refine KX.seq_r ?_
        obtain rfl := Option.some.inj h
        exact hret _ rfl (known_cons rfl known_nil) (H.sub (.cons _ .slnil) .slnil)
      · refine WC.condF rfl hc44 ?_
        refine WC.skip ?_
        refine KX.block_n ?_
        refine KX.seq_n ?_
        refine WC.region ?_
        refine WO.step (v := (.int .i64 x34)) rfl rfl ?_
        refine WO.step (v := (.int .i64 (ad .i64 x34 1))) rfl rfl ?_
        refine WO.step (v := (.int .i64 (ad .i64 x34 1))) rfl rfl ?_
        refine WO.nil ?_
        refine KX.seq_n ?_
        exact ih h  (known_cons rfl (known_cons rfl known_nil)) (H.sub (.cons_cons _ .slnil) .slnil)
    · refine WC.condF rfl hc45 ?_
      refine WC.exit ?_
      refine KX.seq_x ?_
      refine KX.seq_x ?_
      obtain rfl := Option.some.inj h
      exact hbrk _ rfl  (known_cons rfl known_nil) (H.sub (.cons_cons _ .slnil) .slnil)
theorem s38 : ∀ k : Nat, ∀ {a0 : Api_Element} {r : Bool}, F38 k a0 = some r → ∀ {vs : List PV}, vs.map PV.strip = [(.agg [(.int .u8 a0.Tag), (.str a0.Body), (encSl e_Api_Element a0.Kids)])] → ∀ S : List SObj, evw env 38 vs S = some ((.bool r), S, false) := by
  intro k
  induction k with
  | zero => intro _ r h; cases h
  | succ k ih =>
    intro a0 r h vs ha S
    rw [F38] at h
    refine evw_pureW (pf := fn38) rfl rfl ha (Nat.le_of_ble_eq_true rfl) (by simp [PV.clean, cleanL, clean_encSl clean_Api_Element]) rfl ?_
    refine WB.of (pf := fn38) rfl ?_
    have H := Hp.start []
    refine WC.seqR ?_
    refine WO.box' rfl rfl rfl rfl H ?_
    intro i1 S hi1 H
    refine WO.step (v := (.bool false)) rfl rfl ?_
    refine WO.nil ?_
    refine WC.seq ?_
    refine WC.seqR ?_
    refine WO.step (v := (.ptr i1 0)) rfl rfl ?_
    refine WO.step (v := (.int .u8 a0.Tag)) rfl (stp_load rfl (H.get 0 rfl) rfl) ?_
    refine WO.step (v := (.int .u8 (bAnd .u8 a0.Tag 31))) rfl rfl ?_
    refine WO.step (v := (.bool ((bAnd .u8 a0.Tag 31) == 31))) rfl rfl ?_
    refine WO.step (v := (.bool ((bAnd .u8 a0.Tag 31) == 31))) rfl rfl ?_
    refine WO.split 10 (fun σ' S' e' => Known ([(1, (.ptr i1 0)), (18, (.bool (((bAnd .u8 a0.Tag 31) == 31) || (((bAnd .u8 a0.Tag 32) != 0) && (!(a0.Body == []))))))]) σ' ∧ Hp [] [] S' [(i1, [(.int .u8 a0.Tag), (.str a0.Body), (encSl e_Api_Element a0.Kids)])] [] ∧ e' = false) ?_ ?_
    · cases hc4 : ((bAnd .u8 a0.Tag 31) == 31)
      · skip
        refine WO.go0 rfl rfl ?_
        refine WO.step (v := (.ptr i1 0)) rfl rfl ?_
        refine WO.go0 rfl rfl ?_
        refine WO.step (v := (.int .u8 a0.Tag)) rfl (stp_load rfl (H.get 0 rfl) rfl) ?_
        refine WO.go0 rfl rfl ?_
        refine WO.step (v := (.int .u8 (bAnd .u8 a0.Tag 32))) rfl rfl ?_
        refine WO.go0 rfl rfl ?_
        refine WO.step (v := (.bool ((bAnd .u8 a0.Tag 32) != 0))) rfl rfl ?_
        refine WO.go0 rfl rfl ?_
        refine WO.step (v := (.bool ((bAnd .u8 a0.Tag 32) != 0))) rfl rfl ?_
        refine WO.split 4 (fun σ' S' e' => Known ([(1, (.ptr i1 0)), (8, (.bool false)), (17, (.bool (((bAnd .u8 a0.Tag 32) != 0) && (!(a0.Body == [])))))]) σ' ∧ Hp [] [] S' [(i1, [(.int .u8 a0.Tag), (.str a0.Body), (encSl e_Api_Element a0.Kids)])] [] ∧ e' = false) ?_ ?_
        · cases hc5 : ((bAnd .u8 a0.Tag 32) != 0)
          · skip
            refine WO.by rfl rfl rfl ?_
            refine WO.by rfl rfl rfl ?_
            refine WO.by rfl rfl rfl ?_
            refine WO.go0 rfl rfl ?_
            refine WO.step (v := (.bool false)) rfl rfl ?_
            refine WO.nil ?_
            exact ⟨(known_cons rfl (known_cons rfl (known_cons rfl known_nil))), H, rfl⟩
          · skip
            refine WO.go0 rfl rfl ?_
            refine WO.step (v := (.ptr i1 1)) rfl rfl ?_
            refine WO.go0 rfl rfl ?_
            refine WO.step (v := (.str a0.Body)) rfl (stp_load rfl (H.get 0 rfl) rfl) ?_
            refine WO.go0 rfl rfl ?_
            refine WO.step (v := (.bool (!(a0.Body == [])))) rfl rfl ?_
            refine WO.go0 rfl rfl ?_
            refine WO.step (v := (.bool (!(a0.Body == [])))) rfl rfl ?_
            refine WO.nil ?_
            exact ⟨(known_cons rfl (known_cons rfl (known_cons rfl known_nil))), H, rfl⟩
        · rintro σ S e ⟨hk, H, rfl⟩
          refine WO.of_known hk ?_
          refine WO.step (v := (.bool (((bAnd .u8 a0.Tag 32) != 0) && (!(a0.Body == []))))) rfl rfl ?_
          refine WO.nil ?_
          exact ⟨(known_cons rfl (known_cons rfl known_nil)), H, rfl⟩
      · skip
        refine WO.by rfl rfl rfl ?_
        refine WO.by rfl rfl rfl ?_
        refine WO.by rfl rfl rfl ?_
        refine WO.by rfl rfl rfl ?_
        refine WO.by rfl rfl rfl ?_
        refine WO.by0 rfl rfl ?_
        refine WO.by0 rfl rfl ?_
        refine WO.by0 rfl rfl ?_
        refine WO.by rfl rfl rfl ?_
        refine WO.step (v := (.bool true)) rfl rfl ?_
        refine WO.nil ?_
        exact ⟨(known_cons rfl (known_cons rfl known_nil)), H, rfl⟩
    · rintro σ S e ⟨hk, H, rfl⟩
      refine WO.of_known hk ?_
      refine WO.step (v := (.bool (((bAnd .u8 a0.Tag 31) == 31) || (((bAnd .u8 a0.Tag 32) != 0) && (!(a0.Body == [])))))) rfl rfl ?_
      refine WO.split 11 (fun σ' S' e' => Known ([(1, (.ptr i1 0)), (30, (.bool ((((bAnd .u8 a0.Tag 31) == 31) || (((bAnd .u8 a0.Tag 32) != 0) && (!(a0.Body == [])))) || (((bAnd .u8 a0.Tag 32) == 0) && (decide ((Sl.len a0.Kids) > 0))))))]) σ' ∧ Hp [] [] S' [(i1, [(.int .u8 a0.Tag), (.str a0.Body), (encSl e_Api_Element a0.Kids)])] [] ∧ e' = false) ?_ ?_
      · cases hc8 : (((bAnd .u8 a0.Tag 31) == 31) || (((bAnd .u8 a0.Tag 32) != 0) && (!(a0.Body == []))))
        · skip
          refine WO.go0 rfl rfl ?_
          refine WO.step (v := (.ptr i1 0)) rfl rfl ?_
          refine WO.go0 rfl rfl ?_
          refine WO.step (v := (.int .u8 a0.Tag)) rfl (stp_load rfl (H.get 0 rfl) rfl) ?_
          refine WO.go0 rfl rfl ?_
          refine WO.step (v := (.int .u8 (bAnd .u8 a0.Tag 32))) rfl rfl ?_
          refine WO.go0 rfl rfl ?_
          refine WO.step (v := (.bool ((bAnd .u8 a0.Tag 32) == 0))) rfl rfl ?_
          refine WO.go0 rfl rfl ?_
          refine WO.step (v := (.bool ((bAnd .u8 a0.Tag 32) == 0))) rfl rfl ?_
          refine WO.split 5 (fun σ' S' e' => Known ([(1, (.ptr i1 0)), (19, (.bool false)), (29, (.bool (((bAnd .u8 a0.Tag 32) == 0) && (decide ((Sl.len a0.Kids) > 0)))))]) σ' ∧ Hp [] [] S' [(i1, [(.int .u8 a0.Tag), (.str a0.Body), (encSl e_Api_Element a0.Kids)])] [] ∧ e' = false) ?_ ?_
          · cases hc9 : ((bAnd .u8 a0.Tag 32) == 0)
            · skip
              refine WO.by rfl rfl rfl ?_
              refine WO.by rfl rfl rfl ?_
              refine WO.by rfl rfl rfl ?_
              refine WO.by rfl rfl rfl ?_
              refine WO.go0 rfl rfl ?_
              refine WO.step (v := (.bool false)) rfl rfl ?_
              refine WO.nil ?_
              exact ⟨(known_cons rfl (known_cons rfl (known_cons rfl known_nil))), H, rfl⟩
            · skip
              refine WO.go0 rfl rfl ?_
              refine WO.step (v := (.ptr i1 2)) rfl rfl ?_
              refine WO.go0 rfl rfl ?_
              refine WO.step (v := (encSl e_Api_Element a0.Kids)) rfl (stp_load rfl (H.get 0 rfl) rfl) ?_
              refine WO.go0 rfl rfl ?_
              refine WO.step (v := (.int .i64 (Sl.len a0.Kids))) rfl (stp_len rfl (isSl_enc _ _) rfl) ?_
              refine WO.go0 rfl rfl ?_
              refine WO.step (v := (.bool (decide ((Sl.len a0.Kids) > 0)))) rfl rfl ?_
              refine WO.go0 rfl rfl ?_
              refine WO.step (v := (.bool (decide ((Sl.len a0.Kids) > 0)))) rfl rfl ?_
              refine WO.nil ?_
              exact ⟨(known_cons rfl (known_cons rfl (known_cons rfl known_nil))), H, rfl⟩
          · rintro σ S e ⟨hk, H, rfl⟩
            refine WO.of_known hk ?_
            refine WO.step (v := (.bool (((bAnd .u8 a0.Tag 32) == 0) && (decide ((Sl.len a0.Kids) > 0))))) rfl rfl ?_
            refine WO.nil ?_
            exact ⟨(known_cons rfl (known_cons rfl known_nil)), H, rfl⟩
        · skip
          refine WO.by rfl rfl rfl ?_
          refine WO.by rfl rfl rfl ?_
          refine WO.by rfl rfl rfl ?_
          refine WO.by rfl rfl rfl ?_
          refine WO.by rfl rfl rfl ?_
          refine WO.by0 rfl rfl ?_
          refine WO.by0 rfl rfl ?_
          refine WO.by0 rfl rfl ?_
          refine WO.by0 rfl rfl ?_
          refine WO.by rfl rfl rfl ?_
          refine WO.step (v := (.bool true)) rfl rfl ?_
          refine WO.nil ?_
          exact ⟨(known_cons rfl (known_cons rfl known_nil)), H, rfl⟩
      · rintro σ S e ⟨hk, H, rfl⟩
        refine WO.of_known hk ?_
        refine WO.nil ?_
        rcases iteS h with ⟨hc47, h⟩ | ⟨hc47, h⟩
        · refine WC.condT rfl hc47 ?_
          refine WC.seqR ?_
          refine WO.step (v := (.bool false)) rfl rfl ?_
          refine WO.nil ?_
          refine WC.ret ?_
          refine KX.seq_r ?_
          obtain rfl := Option.some.inj h
          refine KB.ret (vs := [(.bool false)]) (res_tmp rfl res_nil) ?_
          exact rfl
        · refine WC.condF rfl hc47 ?_
          refine WC.skip ?_
          refine KX.seq_n ?_
          refine WC.seq ?_
          refine WC.seqR ?_
          refine WO.step (v := (.int .i64 0)) rfl rfl ?_
          refine WO.nil ?_
          obtain ⟨y46, hy46, hOy46⟩ := bindS h
          refine WC.block ?_
          refine l38_L0 ih hi1 ?_ ?_ hy46  (known_cons rfl (known_cons rfl known_nil)) (H.sub (.cons_cons _ .slnil) .slnil)
          · intro y46r he σ S  hk H; subst he; replace h := hOy46; dsimp only at h
            refine KX.of_known hk ?_
            refine KX.block_r ?_
            refine KX.seq_r ?_
            obtain rfl := Option.some.inj h
            refine KB.ret (vs := [(.bool y46r)]) (res_tmp rfl res_nil) ?_
            exact rfl
          · intro y46b he σ S  hk H; subst he; replace h := hOy46; dsimp only at h
            refine KX.of_known hk ?_
            refine KX.block_x ?_
            refine KX.seq_n ?_
            refine WC.seqR ?_
            refine WO.step (v := (.bool true)) rfl rfl ?_
            refine WO.nil ?_
            refine WC.ret ?_
            obtain rfl := Option.some.inj h
            refine KB.ret (vs := [(.bool true)]) (res_tmp rfl res_nil) ?_
            exact rfl
-- 39 prefect/prefectref1.Deep
def F39_L0 (rc0 : Api_Element → Option Int) (k : Nat) (a20 : Api_Element) : Nat → Int → Int → Option (Int × Int)
  | 0, _, _ => none
  | n + 1, x18, x19 =>
    if decide (x19 < (Sl.len a20.Kids)) then
    Option.bind (Sl.at? a20.Kids x19) fun y24 =>
    Option.bind (rc0 y24) fun y25 =>
    F39_L0 rc0 k a20 n (imax x18 y25) (ad .i64 x19 1)
    else
    some (x18, x19)
/-- prefect/prefectref1.Deep -/
def F39 : Nat → Api_Element → Option Int
  | 0, _ => none
  | k + 1, a0 =>
    Option.bind (F39_L0 (F39 k) k a0 k 0 0) fun y27 =>
    some (ad .i64 y27.1 1)
theorem l39_L0 {rc0 : Api_Element → Option Int} (hrc0 : ∀ {a0 : Api_Element} {r : Int}, rc0 a0 = some r → ∀ {vs : List PV}, vs.map PV.strip = [(.agg [(.int .u8 a0.Tag), (.str a0.Body), (encSl e_Api_Element a0.Kids)])] → ∀ S : List SObj, evw env 39 vs S = some ((.int .i64 r), S, false)) {k : Nat} {a20 : Api_Element} {S0 : List SObj} {R : List Nat} {K : KX} {i1 : Nat} (hi1 : S0.length ≤ i1)  {o : (Int × Int)}
    (hbrk : ∀ {σ' : Nat → PV} {S' : List SObj}, Known [(3, (.int .i64 o.1)), (4, (.int .i64 o.2))] σ' → Hp S0 R S' [(i1, [(.int .u8 a20.Tag), (.str a20.Body), (encSl e_Api_Element a20.Kids)])] [] → K (.exit 0) σ' S' false) :
    ∀ {n : Nat} {x18 : Int} {x19 : Int}, F39_L0 rc0 k a20 n x18 x19 = some o → ∀ {σ : Nat → PV} {S : List SObj}, Known [(1, (.ptr i1 0)), (3, (.int .i64 x18)), (4, (.int .i64 x19))] σ → Hp S0 R S [(i1, [(.int .u8 a20.Tag), (.str a20.Body), (encSl e_Api_Element a20.Kids)])] [] → WC env ⟨22, S0.length⟩ (.loop pc39L0) σ S false K := by
  intro n
  induction n with
  | zero => intro _ _ h; cases h
  | succ n ih =>
    intro x18 x19 h σ S  hk H
    rw [F39_L0] at h
    refine WC.loop ?_
    refine WC.of_known hk ?_
    refine WC.seq ?_
    refine WC.seqR ?_
    refine WO.step (v := (.int .i64 x19)) rfl rfl ?_
    refine WO.step (v := (.ptr i1 2)) rfl rfl ?_
    refine WO.step (v := (encSl e_Api_Element a20.Kids)) rfl (stp_load rfl (H.get 0 rfl) rfl) ?_
    refine WO.step (v := (.int .i64 (Sl.len a20.Kids))) rfl (stp_len rfl (isSl_enc _ _) rfl) ?_
    refine WO.step (v := (.bool (decide (x19 < (Sl.len a20.Kids))))) rfl rfl ?_
    refine WO.nil ?_
    rcases iteS h with ⟨hc26, h⟩ | ⟨hc26, h⟩
    · refine WC.condT rfl hc26 ?_
      refine WC.skip ?_
      refine KX.seq_n ?_
      refine WC.seq ?_
      refine WC.block ?_
      refine WC.region ?_
      refine WO.step (v := (.int .i64 x18)) rfl rfl ?_
      refine WO.step (v := (.ptr i1 2)) rfl rfl ?_
      refine WO.step (v := (encSl e_Api_Element a20.Kids)) rfl (stp_load rfl (H.get 0 rfl) rfl) ?_
      refine WO.step (v := (.int .i64 x19)) rfl rfl ?_
      obtain ⟨y24, hy24, h⟩ := bindS h
      refine WO.step (v := (.iptr [(.int .u8 y24.Tag), (.str y24.Body), (encSl e_Api_Element y24.Kids)] 0)) rfl (stp_idxAddr rfl (isSl_enc _ _) rfl rfl rfl hy24 (e_Api_Element_cells _) rfl) ?_
      refine WO.step (v := (.agg [(.int .u8 y24.Tag), (.str y24.Body), (encSl e_Api_Element y24.Kids)])) rfl rfl ?_
      obtain ⟨y25, hy25, h⟩ := bindS h
      refine WO.step (v := (.int .i64 y25)) rfl (stp_call (vs := [(.agg [(.int .u8 y24.Tag), (.str y24.Body), (encSl e_Api_Element y24.Kids)])]) rfl rfl (hrc0 hy25 (by simp only [st_agg, List.map_cons, List.map_nil, st1_int, st1_str, strip1_enc, e_Api_Element_eq, tupled]) _)) ?_
      refine WO.step (v := (.int .i64 (imax x18 y25))) rfl rfl ?_
      refine WO.step (v := (.int .i64 (imax x18 y25))) rfl rfl ?_
      refine WO.nil ?_
      refine KX.block_n ?_
      refine KX.seq_n ?_
      refine WC.region ?_
      refine WO.step (v := (.int .i64 x19)) rfl rfl ?_
      refine WO.step (v := (.int .i64 (ad .i64 x19 1))) rfl rfl ?_
      refine WO.step (v := (.int .i64 (ad .i64 x19 1))) rfl rfl ?_
      refine WO.nil ?_
      refine KX.seq_n ?_
      exact ih h  (known_cons rfl (known_cons rfl (known_cons rfl known_nil))) (H.sub (.cons_cons _ .slnil) .slnil)
    · refine WC.condF rfl hc26 ?_
      refine WC.exit ?_
      refine KX.seq_x ?_
      refine KX.seq_x ?_
      obtain rfl := Option.some.inj h
      exact hbrk  (known_cons rfl (known_cons rfl known_nil)) (H.sub (.cons_cons _ .slnil) .slnil)
theorem s39 : ∀ k : Nat, ∀ {a0 : Api_Element} {r : Int}, F39 k a0 = some r → ∀ {vs : List PV}, vs.map PV.strip = [(.agg [(.int .u8 a0.Tag), (.str a0.Body), (encSl e_Api_Element a0.Kids)])] → ∀ S : List SObj, evw env 39 vs S = some ((.int .i64 r), S, false) := by
  intro k
  induction k with
  | zero => intro _ r h; cases h
  | succ k ih =>
    intro a0 r h vs ha S
    rw [F39] at h
    refine evw_pureW (pf := fn39) rfl rfl ha (Nat.le_of_ble_eq_true rfl) (by simp [PV.clean, cleanL, clean_encSl clean_Api_Element]) rfl ?_
    refine WB.of (pf := fn39) rfl ?_
    have H := Hp.start []
    refine WC.seqR ?_
    refine WO.box' rfl rfl rfl rfl H ?_
    intro i1 S hi1 H
    refine WO.step (v := (.int .i64 0)) rfl rfl ?_
    refine WO.nil ?_
    refine WC.seqR ?_
    refine WO.step (v := (.int .i64 0)) rfl rfl ?_
    refine WO.nil ?_
    refine WC.seq ?_
    refine WC.seqR ?_
    refine WO.step (v := (.int .i64 0)) rfl rfl ?_
    refine WO.nil ?_
    obtain ⟨y27, hy27, hOy27⟩ := bindS h
    refine WC.block ?_
    refine l39_L0 ih hi1 ?_ hy27  (known_cons rfl (known_cons rfl (known_cons rfl known_nil))) (H.sub (.cons_cons _ .slnil) .slnil)
    · intro σ S  hk H; replace h := hOy27
      refine KX.of_known hk ?_
      refine KX.block_x ?_
      refine KX.seq_n ?_
      refine WC.seqR ?_
      refine WO.step (v := (.int .i64 y27.1)) rfl rfl ?_
      refine WO.step (v := (.int .i64 (ad .i64 y27.1 1))) rfl rfl ?_
      refine WO.step (v := (.int .i64 (ad .i64 y27.1 1))) rfl rfl ?_
      refine WO.nil ?_
      refine WC.ret ?_
      obtain rfl := Option.some.inj h
      refine KB.ret (vs := [(.int .i64 (ad .i64 y27.1 1))]) (res_tmp rfl res_nil) ?_
      exact rfl
-- 55 prefect/prefectref1.length
def F55_L0 (k : Nat) : Nat → Str → Int → Option (Str × Int)
  | 0, _, _ => none
  | n + 1, x21, x22 =>
    if decide (x22 > 0) then
    Option.bind (Str.app? (Str.of (some [cv .u8 x22])) x21) fun z27 =>
    Option.bind (quo? .i64 x22 256) fun z28 =>
    F55_L0 k n z27 z28
    else
    some (x21, x22)
/-- prefect/prefectref1.length -/
def F55 (k : Nat) (a0 : Int) : Option Str :=
  if decide (a0 < 128) then
  some (Str.of (some [cv .u8 a0]))
  else
  Option.bind (F55_L0 k k [] a0) fun y30 =>
  Option.bind (Str.app? (Str.of (some [cv .u8 (ad .i64 128 (Str.len y30.1))])) y30.1) fun z32 =>
  some z32
theorem l55_L0 {k : Nat} {S0 : List SObj} {R : List Nat} {K : KX}  {o : (Str × Int)}
    (hbrk : ∀ {σ' : Nat → PV} {S' : List SObj}, Known [(3, (.str o.1)), (4, (.int .i64 o.2))] σ' → Hp S0 R S' [] [] → K (.exit 0) σ' S' false) :
    ∀ {n : Nat} {x21 : Str} {x22 : Int}, F55_L0 k n x21 x22 = some o → ∀ {σ : Nat → PV} {S : List SObj}, Known [(3, (.str x21)), (4, (.int .i64 x22))] σ → Hp S0 R S [] [] → WC env ⟨30, S0.length⟩ (.loop pc55L0) σ S false K := by
  intro n
  induction n with
  | zero => intro _ _ h; cases h
  | succ n ih =>
    intro x21 x22 h σ S  hk H
    rw [F55_L0] at h
    refine WC.loop ?_
    refine WC.of_known hk ?_
    refine WC.seq ?_
    refine WC.seqR ?_
    refine WO.step (v := (.int .i64 x22)) rfl rfl ?_
    refine WO.step (v := (.bool (decide (x22 > 0)))) rfl rfl ?_
    refine WO.nil ?_
    rcases iteS h with ⟨hc29, h⟩ | ⟨hc29, h⟩
    · refine WC.condT rfl hc29 ?_
      refine WC.skip ?_
      refine KX.seq_n ?_
      refine WC.seq ?_
      refine WC.block ?_
      refine WC.region ?_
      refine WO.step (v := (.int .i64 x22)) rfl rfl ?_
      refine WO.step (v := (.int .u8 (cv .u8 x22))) rfl rfl ?_
      refine WO.step rfl (stp_buildSlice (ys := [cv .u8 x22]) (f := (eI .u8)) (parts := [(0, (.int .u8 (cv .u8 x22)))]) rfl rfl rfl rfl rfl rfl (fc ⟨rfl, rfl⟩ (fun p hp => nomatch hp)) rfl) ?_
      have hv26 : IsSl (eI .u8) (some [cv .u8 x22]) _ := ⟨.full, rfl⟩
      refine WO.step (v := (.str (Str.of (some [cv .u8 x22])))) rfl (stp_text rfl hv26 rfl rfl rfl) ?_
      refine WO.step (v := (.str x21)) rfl rfl ?_
      obtain ⟨z27, hz27, h⟩ := bindS h
      refine WO.step (v := (.str z27)) rfl (stp_strApp rfl rfl hz27) ?_
      refine WO.step (v := (.str z27)) rfl rfl ?_
      refine WO.nil ?_
      refine KX.block_n ?_
      refine KX.seq_n ?_
      refine WC.region ?_
      refine WO.step (v := (.int .i64 x22)) rfl rfl ?_
      obtain ⟨z28, hz28, h⟩ := bindS h
      refine WO.step (v := (.int .i64 z28)) rfl (stp_quo rfl rfl hz28) ?_
      refine WO.step (v := (.int .i64 z28)) rfl rfl ?_
      refine WO.nil ?_
      refine KX.seq_n ?_
      exact ih h  (known_cons rfl (known_cons rfl known_nil)) (H.sub .slnil .slnil)
    · refine WC.condF rfl hc29 ?_
      refine WC.exit ?_
      refine KX.seq_x ?_
      refine KX.seq_x ?_
      obtain rfl := Option.some.inj h
      exact hbrk  (known_cons rfl (known_cons rfl known_nil)) (H.sub .slnil .slnil)
theorem s55 : ∀ k : Nat, ∀ {a0 : Int} {r : Str}, F55 k a0 = some r → ∀ {vs : List PV}, vs.map PV.strip = [(.int .i64 a0)] → ∀ S : List SObj, evw env 55 vs S = some ((.str r), S, false) := by
  intro k a0 r h vs ha S
  unfold F55 at h
  refine evw_pureW (pf := fn55) rfl rfl ha (Nat.le_of_ble_eq_true rfl) rfl rfl ?_
  refine WB.of (pf := fn55) rfl ?_
  have H := Hp.start []
  refine WC.seqR ?_
  refine WO.step (v := (.str [])) rfl rfl ?_
  refine WO.nil ?_
  refine WC.seq ?_
  refine WC.seqR ?_
  refine WO.step (v := (.int .i64 a0)) rfl rfl ?_
  refine WO.step (v := (.bool (decide (a0 < 128)))) rfl rfl ?_
  refine WO.nil ?_
  rcases iteS h with ⟨hc33, h⟩ | ⟨hc33, h⟩
  · refine WC.condT rfl hc33 ?_
    refine WC.seqR ?_
    refine WO.step (v := (.int .i64 a0)) rfl rfl ?_
    refine WO.step (v := (.int .u8 (cv .u8 a0))) rfl rfl ?_
    refine WO.step rfl (stp_buildSlice (ys := [cv .u8 a0]) (f := (eI .u8)) (parts := [(0, (.int .u8 (cv .u8 a0)))]) rfl rfl rfl rfl rfl rfl (fc ⟨rfl, rfl⟩ (fun p hp => nomatch hp)) rfl) ?_
    have hv3 : IsSl (eI .u8) (some [cv .u8 a0]) _ := ⟨.full, rfl⟩
    refine WO.step (v := (.str (Str.of (some [cv .u8 a0])))) rfl (stp_text rfl hv3 rfl rfl rfl) ?_
    refine WO.step (v := (.str (Str.of (some [cv .u8 a0])))) rfl rfl ?_
    refine WO.nil ?_
    refine WC.ret ?_
    refine KX.seq_r ?_
    obtain rfl := Option.some.inj h
    refine KB.ret (vs := [(.str (Str.of (some [cv .u8 a0])))]) (res_tmp rfl res_nil) ?_
    exact rfl
  · refine WC.condF rfl hc33 ?_
    refine WC.skip ?_
    refine KX.seq_n ?_
    refine WC.seqR ?_
    refine WO.step (v := (.str [])) rfl rfl ?_
    refine WO.nil ?_
    refine WC.seq ?_
    refine WC.seqR ?_
    refine WO.step (v := (.int .i64 a0)) rfl rfl ?_
    refine WO.step (v := (.int .i64 a0)) rfl rfl ?_
    refine WO.nil ?_
    obtain ⟨y30, hy30, hOy30⟩ := bindS h
    refine WC.block ?_
    refine l55_L0 ?_ hy30  (known_cons rfl (known_cons rfl known_nil)) (H.sub .slnil .slnil)
    · intro σ S  hk H; replace h := hOy30
      refine KX.of_known hk ?_
      refine KX.block_x ?_
      refine KX.seq_n ?_
      refine WC.seqR ?_
      refine WO.step (v := (.str y30.1)) rfl rfl ?_
      refine WO.step (v := (.int .i64 (Str.len y30.1))) rfl rfl ?_
      refine WO.step (v := (.int .i64 (ad .i64 128 (Str.len y30.1)))) rfl rfl ?_
      refine WO.step (v := (.int .u8 (cv .u8 (ad .i64 128 (Str.len y30.1))))) rfl rfl ?_
      refine WO.step rfl (stp_buildSlice (ys := [cv .u8 (ad .i64 128 (Str.len y30.1))]) (f := (eI .u8)) (parts := [(0, (.int .u8 (cv .u8 (ad .i64 128 (Str.len y30.1)))))]) rfl rfl rfl rfl rfl rfl (fc ⟨rfl, rfl⟩ (fun p hp => nomatch hp)) rfl) ?_
      have hv31 : IsSl (eI .u8) (some [cv .u8 (ad .i64 128 (Str.len y30.1))]) _ := ⟨.full, rfl⟩
      refine WO.step (v := (.str (Str.of (some [cv .u8 (ad .i64 128 (Str.len y30.1))])))) rfl (stp_text rfl hv31 rfl rfl rfl) ?_
      refine WO.step (v := (.str y30.1)) rfl rfl ?_
      obtain ⟨z32, hz32, h⟩ := bindS h
      refine WO.step (v := (.str z32)) rfl (stp_strApp rfl rfl hz32) ?_
      refine WO.step (v := (.str z32)) rfl rfl ?_
      refine WO.nil ?_
      refine WC.ret ?_
      obtain rfl := Option.some.inj h
      refine KB.ret (vs := [(.str z32)]) (res_tmp rfl res_nil) ?_
      exact rfl
-- 40 prefect/prefectref1.Bytes
def F40_L0 (rc0 : Api_Element → Option (Str × Bool)) (k : Nat) (a33 : Api_Element) : Nat → Str → Int → Option (Out (Str × Bool) (Str × Int))
  | 0, _, _ => none
  | n + 1, x31, x32 =>
    if decide (x32 < (Sl.len a33.Kids)) then
    Option.bind (Sl.at? a33.Kids x32) fun y40 =>
    Option.bind (rc0 y40) fun y41 =>
    if !y41.2 then
    some (Out.ret ([], false))
    else
    Option.bind (Str.app? x31 y41.1) fun z43 =>
    F40_L0 rc0 k a33 n z43 (ad .i64 x32 1)
    else
    some (Out.brk (x31, x32))
/-- prefect/prefectref1.Bytes -/
def F40 : Nat → Api_Element → Option (Str × Bool)
  | 0, _ => none
  | k + 1, a0 =>
    Option.bind (F40_L0 (F40 k) k a0 k a0.Body 0) fun y46 =>
    match y46 with
    | .ret y46r => some (y46r.1, y46r.2)
    | .brk y46b =>
    if decide ((Str.len y46b.1) > 4000) then
    some ([], false)
    else
    Option.bind (F55 k (Str.len y46b.1)) fun y49 =>
    Option.bind (Str.app? (Str.of (some [a0.Tag])) y49) fun z50 =>
    Option.bind (Str.app? z50 y46b.1) fun z51 =>
    some (z51, true)
theorem l40_L0 {rc0 : Api_Element → Option (Str × Bool)} (hrc0 : ∀ {a0 : Api_Element} {r : Str × Bool}, rc0 a0 = some r → ∀ {vs : List PV}, vs.map PV.strip = [(.agg [(.int .u8 a0.Tag), (.str a0.Body), (encSl e_Api_Element a0.Kids)])] → ∀ S : List SObj, evw env 40 vs S = some ((.tup [(.str r.1), (.bool r.2)]), S, false)) {k : Nat} {a33 : Api_Element} {S0 : List SObj} {R : List Nat} {K : KX} {i1 : Nat} (hi1 : S0.length ≤ i1)  {o : Out (Str × Bool) (Str × Int)}
    (hret : ∀ r : Str × Bool, o = .ret r → ∀ {σ' : Nat → PV} {S' : List SObj}, Known [(2, (.str r.1)), (3, (.bool r.2))] σ' → Hp S0 R S' [] [] → K .ret σ' S' false)
    (hbrk : ∀ y : Str × Int, o = .brk y → ∀ {σ' : Nat → PV} {S' : List SObj}, Known [(1, (.ptr i1 0)), (4, (.str y.1)), (5, (.int .i64 y.2))] σ' → Hp S0 R S' [(i1, [(.int .u8 a33.Tag), (.str a33.Body), (encSl e_Api_Element a33.Kids)])] [] → K (.exit 0) σ' S' false) :
    ∀ {n : Nat} {x31 : Str} {x32 : Int}, F40_L0 rc0 k a33 n x31 x32 = some o → ∀ {σ : Nat → PV} {S : List SObj}, Known [(1, (.ptr i1 0)), (4, (.str x31)), (5, (.int .i64 x32))] σ → Hp S0 R S [(i1, [(.int .u8 a33.Tag), (.str a33.Body), (encSl e_Api_Element a33.Kids)])] [] → WC env ⟨44, S0.length⟩ (.loop pc40L0) σ S false K := by
  intro n
  induction n with
  | zero => intro _ _ h; cases h
  | succ n ih =>
    intro x31 x32 h σ S  hk H
    rw [F40_L0] at h
    refine WC.loop ?_
    refine WC.of_known hk ?_
    refine WC.seq ?_
    refine WC.seqR ?_
    refine WO.step (v := (.int .i64 x32)) rfl rfl ?_
    refine WO.step (v := (.ptr i1 2)) rfl rfl ?_
    refine WO.step (v := (encSl e_Api_Element a33.Kids)) rfl (stp_load rfl (H.get 0 rfl) rfl) ?_
    refine WO.step (v := (.int .i64 (Sl.len a33.Kids))) rfl (stp_len rfl (isSl_enc _ _) rfl) ?_
    refine WO.step (v := (.bool (decide (x32 < (Sl.len a33.Kids))))) rfl rfl ?_
    refine WO.nil ?_
    rcases iteS h with ⟨hc45, h⟩ | ⟨hc45, h⟩
    · refine WC.condT rfl hc45 ?_
      refine WC.skip ?_
      refine KX.seq_n ?_
      refine WC.seq ?_
      refine WC.block ?_
      refine WC.seqR ?_
      refine WO.step (v := (.ptr i1 2)) rfl rfl ?_
      refine WO.step (v := (encSl e_Api_Element a33.Kids)) rfl (stp_load rfl (H.get 0 rfl) rfl) ?_
      refine WO.step (v := (.int .i64 x32)) rfl rfl ?_
      obtain ⟨y40, hy40, h⟩ := bindS h
      refine WO.step (v := (.iptr [(.int .u8 y40.Tag), (.str y40.Body), (encSl e_Api_Element y40.Kids)] 0)) rfl (stp_idxAddr rfl (isSl_enc _ _) rfl rfl rfl hy40 (e_Api_Element_cells _) rfl) ?_
      refine WO.step (v := (.agg [(.int .u8 y40.Tag), (.str y40.Body), (encSl e_Api_Element y40.Kids)])) rfl rfl ?_
      obtain ⟨y41, hy41, h⟩ := bindS h
      refine WO.step (v := (.tup [(.str y41.1), (.bool y41.2)])) rfl (stp_call (vs := [(.agg [(.int .u8 y40.Tag), (.str y40.Body), (encSl e_Api_Element y40.Kids)])]) rfl rfl (hrc0 hy41 (by simp only [st_agg, List.map_cons, List.map_nil, st1_int, st1_str, strip1_enc, e_Api_Element_eq, tupled]) _)) ?_
      refine WO.step (v := (.tup [(.str y41.1), (.bool y41.2)])) rfl rfl ?_
      refine WO.step (v := (.str y41.1)) rfl rfl ?_
      refine WO.step (v := (.bool y41.2)) rfl rfl ?_
      refine WO.step (v := (.str y41.1)) rfl rfl ?_
      refine WO.step (v := (.bool y41.2)) rfl rfl ?_
      refine WO.nil ?_
      refine WC.seq ?_
      refine WC.seqR ?_
      refine WO.step (v := (.bool y41.2)) rfl rfl ?_
      refine WO.step (v := (.bool (!y41.2))) rfl rfl ?_
      refine WO.nil ?_
      rcases iteS h with ⟨hc44, h⟩ | ⟨hc44, h⟩
      · refine WC.condT rfl hc44 ?_
        refine WC.seqR ?_
        refine WO.step (v := (.str [])) rfl rfl ?_
        refine WO.step (v := (.bool false)) rfl rfl ?_
        refine WO.nil ?_
        refine WC.ret ?_
        refine KX.seq_r ?_
        refine KX.block_r ?_
        refine KX.seq_r ?_
        refine KX.seq_r ?_
        obtain rfl := Option.some.inj h
        exact hret _ rfl (known_cons rfl (known_cons rfl known_nil)) (H.sub (.cons _ .slnil) .slnil)
      · refine WC.condF rfl hc44 ?_
        refine WC.skip ?_
        refine KX.seq_n ?_
        refine WC.region ?_
        refine WO.step (v := (.str x31)) rfl rfl ?_
        refine WO.step (v := (.str y41.1)) rfl rfl ?_
        obtain ⟨z43, hz43, h⟩ := bindS h
        refine WO.step (v := (.str z43)) rfl (stp_strApp rfl rfl hz43) ?_
        refine WO.step (v := (.str z43)) rfl rfl ?_
        refine WO.nil ?_
        refine KX.block_n ?_
        refine KX.seq_n ?_
        refine WC.region ?_
        refine WO.step (v := (.int .i64 x32)) rfl rfl ?_
        refine WO.step (v := (.int .i64 (ad .i64 x32 1))) rfl rfl ?_
        refine WO.step (v := (.int .i64 (ad .i64 x32 1))) rfl rfl ?_
        refine WO.nil ?_
        refine KX.seq_n ?_
        exact ih h  (known_cons rfl (known_cons rfl (known_cons rfl known_nil))) (H.sub (.cons_cons _ .slnil) .slnil)
    · refine WC.condF rfl hc45 ?_
      refine WC.exit ?_
      refine KX.seq_x ?_
      refine KX.seq_x ?_
      obtain rfl := Option.some.inj h
      exact hbrk _ rfl  (known_cons rfl (known_cons rfl (known_cons rfl known_nil))) (H.sub (.cons_cons _ .slnil) .slnil)
theorem s40 : ∀ k : Nat, ∀ {a0 : Api_Element} {r : Str × Bool}, F40 k a0 = some r → ∀ {vs : List PV}, vs.map PV.strip = [(.agg [(.int .u8 a0.Tag), (.str a0.Body), (encSl e_Api_Element a0.Kids)])] → ∀ S : List SObj, evw env 40 vs S = some ((.tup [(.str r.1), (.bool r.2)]), S, false) := by
  intro k
  induction k with
  | zero => intro _ r h; cases h
  | succ k ih =>
    intro a0 r h vs ha S
    rw [F40] at h
    refine evw_pureW (pf := fn40) rfl rfl ha (Nat.le_of_ble_eq_true rfl) (by simp [PV.clean, cleanL, clean_encSl clean_Api_Element]) rfl ?_
    refine WB.of (pf := fn40) rfl ?_
    have H := Hp.start []
    refine WC.seqR ?_
    refine WO.box' rfl rfl rfl rfl H ?_
    intro i1 S hi1 H
    refine WO.step (v := (.str [])) rfl rfl ?_
    refine WO.step (v := (.bool false)) rfl rfl ?_
    refine WO.nil ?_
    refine WC.seqR ?_
    refine WO.step (v := (.ptr i1 1)) rfl rfl ?_
    refine WO.step (v := (.str a0.Body)) rfl (stp_load rfl (H.get 0 rfl) rfl) ?_
    refine WO.step (v := (.str a0.Body)) rfl rfl ?_
    refine WO.nil ?_
    refine WC.seq ?_
    refine WC.seqR ?_
    refine WO.step (v := (.int .i64 0)) rfl rfl ?_
    refine WO.nil ?_
    obtain ⟨y46, hy46, hOy46⟩ := bindS h
    refine WC.block ?_
    refine l40_L0 ih hi1 ?_ ?_ hy46  (known_cons rfl (known_cons rfl (known_cons rfl known_nil))) (H.sub (.cons_cons _ .slnil) .slnil)
    · intro y46r he σ S  hk H; subst he; replace h := hOy46; dsimp only at h
      refine KX.of_known hk ?_
      refine KX.block_r ?_
      refine KX.seq_r ?_
      obtain rfl := Option.some.inj h
      refine KB.ret (vs := [(.str y46r.1), (.bool y46r.2)]) (res_tmp rfl (res_tmp rfl res_nil)) ?_
      exact rfl
    · intro y46b he σ S  hk H; subst he; replace h := hOy46; dsimp only at h
      refine KX.of_known hk ?_
      refine KX.block_x ?_
      refine KX.seq_n ?_
      refine WC.seq ?_
      refine WC.seqR ?_
      refine WO.step (v := (.str y46b.1)) rfl rfl ?_
      refine WO.step (v := (.int .i64 (Str.len y46b.1))) rfl rfl ?_
      refine WO.step (v := (.bool (decide ((Str.len y46b.1) > 4000)))) rfl rfl ?_
      refine WO.nil ?_
      rcases iteS h with ⟨hc52, h⟩ | ⟨hc52, h⟩
      · refine WC.condT rfl hc52 ?_
        refine WC.seqR ?_
        refine WO.step (v := (.str [])) rfl rfl ?_
        refine WO.step (v := (.bool false)) rfl rfl ?_
        refine WO.nil ?_
        refine WC.ret ?_
        refine KX.seq_r ?_
        obtain rfl := Option.some.inj h
        refine KB.ret (vs := [(.str []), (.bool false)]) (res_tmp rfl (res_tmp rfl res_nil)) ?_
        exact rfl
      · refine WC.condF rfl hc52 ?_
        refine WC.skip ?_
        refine KX.seq_n ?_
        refine WC.seq ?_
        refine WC.draw ?_
        refine WH.step (v := (.ptr i1 0)) rfl rfl rfl rfl ?_
        refine WH.step (v := (.int .u8 a0.Tag)) rfl (stp_load rfl (H.get 0 rfl) rfl) rfl rfl ?_
        refine WH.step rfl (stp_buildSlice (ys := [a0.Tag]) (f := (eI .u8)) (parts := [(0, (.int .u8 a0.Tag))]) rfl rfl rfl rfl rfl rfl (fc ⟨rfl, rfl⟩ (fun p hp => nomatch hp)) rfl) rfl rfl ?_
        have hv48 : IsSl (eI .u8) (some [a0.Tag]) _ := ⟨.full, rfl⟩
        refine WH.step (v := (.str (Str.of (some [a0.Tag])))) rfl (stp_text rfl hv48 rfl rfl rfl) rfl rfl ?_
        refine WH.step (v := (.str y46b.1)) rfl rfl rfl rfl ?_
        refine WH.step (v := (.int .i64 (Str.len y46b.1))) rfl rfl rfl rfl ?_
        obtain ⟨y49, hy49, h⟩ := bindS h
        refine WH.step (v := (.str y49)) rfl (stp_call (vs := [(.int .i64 (Str.len y46b.1))]) rfl rfl (s55 _ hy49 rfl _)) rfl rfl ?_
        obtain ⟨z50, hz50, h⟩ := bindS h
        refine WH.step (v := (.str z50)) rfl (stp_strApp rfl rfl hz50) rfl rfl ?_
        refine WH.step (v := (.str y46b.1)) rfl rfl rfl rfl ?_
        refine WH.nil ?_
        obtain ⟨z51, hz51, h⟩ := bindS h
        refine WO.step (v := (.str z51)) rfl (stp_strApp rfl rfl hz51) ?_
        refine WO.step (v := (.str z51)) rfl rfl ?_
        refine WO.step (v := (.bool true)) rfl rfl ?_
        refine WO.nil ?_
        refine KX.seq_n ?_
        refine WC.ret ?_
        obtain rfl := Option.some.inj h
        refine KB.ret (vs := [(.str z51), (.bool true)]) (res_tmp rfl (res_tmp rfl res_nil)) ?_
        exact rfl
-- 10 prefect/prefectref1.Write
/-- prefect/prefectref1.Write -/
def F10 (k : Nat) (a0 : Api_Element) : Option (Str × Int) :=
  Option.bind (F38 k a0) fun y2 =>
  if !y2 then
  some ([], 14)
  else
  Option.bind (F39 k a0) fun y4 =>
  if decide (y4 > 20) then
  some ([], 12)
  else
  Option.bind (F40 k a0) fun y6 =>
  if !y6.2 then
  some ([], 13)
  else
  some (y6.1, 0)
theorem s10 : ∀ k : Nat, ∀ {a0 : Api_Element} {r : Str × Int}, F10 k a0 = some r → ∀ {vs : List PV}, vs.map PV.strip = [(.agg [(.int .u8 a0.Tag), (.str a0.Body), (encSl e_Api_Element a0.Kids)])] → ∀ S : List SObj, evw env 10 vs S = some ((.tup [(.str r.1), (.int .i64 r.2)]), S, false) := by
  intro k a0 r h vs ha S
  unfold F10 at h
  refine evw_pureW (pf := fn10) rfl rfl ha (Nat.le_of_ble_eq_true rfl) (by simp [PV.clean, cleanL, clean_encSl clean_Api_Element]) rfl ?_
  refine WB.of (pf := fn10) rfl ?_
  have H := Hp.start []
  refine WC.seqR ?_
  refine WO.box' rfl rfl rfl rfl H ?_
  intro i1 S hi1 H
  refine WO.step (v := (.str [])) rfl rfl ?_
  refine WO.step (v := (.int .i64 0)) rfl rfl ?_
  refine WO.nil ?_
  refine WC.seq ?_
  refine WC.seqR ?_
  refine WO.step (v := (.agg [(.int .u8 a0.Tag), (.str a0.Body), (encSl e_Api_Element a0.Kids)])) rfl (stp_load rfl (H.get 0 rfl) rfl) ?_
  obtain ⟨y2, hy2, h⟩ := bindS h
  refine WO.step (v := (.bool y2)) rfl (stp_call (vs := [(.agg [(.int .u8 a0.Tag), (.str a0.Body), (encSl e_Api_Element a0.Kids)])]) rfl rfl (s38 _ hy2 (by simp only [st_agg, List.map_cons, List.map_nil, st1_int, st1_str, strip1_enc, e_Api_Element_eq, tupled]) _)) ?_
  refine WO.step (v := (.bool (!y2))) rfl rfl ?_
  refine WO.nil ?_
  rcases iteS h with ⟨hc10, h⟩ | ⟨hc10, h⟩
  · refine WC.condT rfl hc10 ?_
    refine WC.seqR ?_
    refine WO.step (v := (.str [])) rfl rfl ?_
    refine WO.step (v := (.int .i64 14)) rfl rfl ?_
    refine WO.nil ?_
    refine WC.ret ?_
    refine KX.seq_r ?_
    obtain rfl := Option.some.inj h
    refine KB.ret (vs := [(.str []), (.int .i64 14)]) (res_tmp rfl (res_tmp rfl res_nil)) ?_
    exact rfl
  · refine WC.condF rfl hc10 ?_
    refine WC.skip ?_
    refine KX.seq_n ?_
    refine WC.seq ?_
    refine WC.seqR ?_
    refine WO.step (v := (.agg [(.int .u8 a0.Tag), (.str a0.Body), (encSl e_Api_Element a0.Kids)])) rfl (stp_load rfl (H.get 0 rfl) rfl) ?_
    obtain ⟨y4, hy4, h⟩ := bindS h
    refine WO.step (v := (.int .i64 y4)) rfl (stp_call (vs := [(.agg [(.int .u8 a0.Tag), (.str a0.Body), (encSl e_Api_Element a0.Kids)])]) rfl rfl (s39 _ hy4 (by simp only [st_agg, List.map_cons, List.map_nil, st1_int, st1_str, strip1_enc, e_Api_Element_eq, tupled]) _)) ?_
    refine WO.step (v := (.bool (decide (y4 > 20)))) rfl rfl ?_
    refine WO.nil ?_
    rcases iteS h with ⟨hc9, h⟩ | ⟨hc9, h⟩
    · refine WC.condT rfl hc9 ?_
      refine WC.seqR ?_
      refine WO.step (v := (.str [])) rfl rfl ?_
      refine WO.step (v := (.int .i64 12)) rfl rfl ?_
      refine WO.nil ?_
      refine WC.ret ?_
      refine KX.seq_r ?_
      obtain rfl := Option.some.inj h
      refine KB.ret (vs := [(.str []), (.int .i64 12)]) (res_tmp rfl (res_tmp rfl res_nil)) ?_
      exact rfl
    · refine WC.condF rfl hc9 ?_
      refine WC.skip ?_
      refine KX.seq_n ?_
      refine WC.seqR ?_
      refine WO.step (v := (.agg [(.int .u8 a0.Tag), (.str a0.Body), (encSl e_Api_Element a0.Kids)])) rfl (stp_load rfl (H.get 0 rfl) rfl) ?_
      obtain ⟨y6, hy6, h⟩ := bindS h
      refine WO.step (v := (.tup [(.str y6.1), (.bool y6.2)])) rfl (stp_call (vs := [(.agg [(.int .u8 a0.Tag), (.str a0.Body), (encSl e_Api_Element a0.Kids)])]) rfl rfl (s40 _ hy6 (by simp only [st_agg, List.map_cons, List.map_nil, st1_int, st1_str, strip1_enc, e_Api_Element_eq, tupled]) _)) ?_
      refine WO.step (v := (.tup [(.str y6.1), (.bool y6.2)])) rfl rfl ?_
      refine WO.step (v := (.str y6.1)) rfl rfl ?_
      refine WO.step (v := (.bool y6.2)) rfl rfl ?_
      refine WO.step (v := (.str y6.1)) rfl rfl ?_
      refine WO.step (v := (.bool y6.2)) rfl rfl ?_
      refine WO.nil ?_
      refine WC.seq ?_
      refine WC.seqR ?_
      refine WO.step (v := (.bool y6.2)) rfl rfl ?_
      refine WO.step (v := (.bool (!y6.2))) rfl rfl ?_
      refine WO.nil ?_
      rcases iteS h with ⟨hc8, h⟩ | ⟨hc8, h⟩
      · refine WC.condT rfl hc8 ?_
        refine WC.seqR ?_
        refine WO.step (v := (.str [])) rfl rfl ?_
        refine WO.step (v := (.int .i64 13)) rfl rfl ?_
        refine WO.nil ?_
        refine WC.ret ?_
        refine KX.seq_r ?_
        obtain rfl := Option.some.inj h
        refine KB.ret (vs := [(.str []), (.int .i64 13)]) (res_tmp rfl (res_tmp rfl res_nil)) ?_
        exact rfl
      · refine WC.condF rfl hc8 ?_
        refine WC.skip ?_
        refine KX.seq_n ?_
        refine WC.seqR ?_
        refine WO.step (v := (.str y6.1)) rfl rfl ?_
        refine WO.step (v := (.str y6.1)) rfl rfl ?_
        refine WO.step (v := (.int .i64 0)) rfl rfl ?_
        refine WO.nil ?_
        refine WC.ret ?_
        obtain rfl := Option.some.inj h
        refine KB.ret (vs := [(.str y6.1), (.int .i64 0)]) (res_tmp rfl (res_tmp rfl res_nil)) ?_
        exact rfl
-- 3 prefect/prefectlaw3.FrameCuts
def F3_L0 (k : Nat) (a73 : Sl Api_Element) (a74 : Sl Int) : Nat → (Sl Str) → Str → Int → Option (Out Bool ((Sl Str) × Str × Int))
  | 0, _, _, _ => none
  | n + 1, x75, x77, x78 =>
    if decide (x78 < (Sl.len a73)) then
    Option.bind (Sl.at? a73 x78) fun y91 =>
    if decide ((Str.len y91.Body) > 300) then
    some (Out.ret true)
    else
    Option.bind (F10 k (Api_Element.mk (bNot .u8 y91.Tag 33) y91.Body none)) fun y94 =>
    if y94.2 != 0 then
    some (Out.ret true)
    else
    Option.bind (Sl.app? 16 x75 (Sl.l (some [y94.1]))) fun z97 =>
    Option.bind (Str.app? x77 y94.1) fun z99 =>
    F3_L0 k a73 a74 n z97 z99 (ad .i64 x78 1)
    else
    some (Out.brk (x75, x77, x78))
def F3_L4 (k : Nat) (a792 : Sl Int) (a793 : Sl Str) (a795 : Str) (a797 : Int) (a798 : Int) : Nat → Int → Frame_Cutter → Option (Out Bool (Int × Frame_Cutter))
  | 0, _, _ => none
  | n + 1, x796, b799 =>
    Option.bind (F13 k b799 ) fun y813 =>
    if y813.2.2 == 10 then
    some (Out.brk (x796, y813.1))
    else
    Option.bind (if (y813.2.2 != 0) || (decide (x796 ≥ (Sl.len a793))) then
    some true
    else
    Option.bind (Sl.at? a793 x796) fun y821 =>
    some (!(y813.2.1 == y821))) fun y820 =>
    if y820 then
    some (Out.ret false)
    else
    F3_L4 k a792 a793 a795 a797 a798 n (ad .i64 x796 1) y813.1
def F3_L2 (k : Nat) (a585 : Sl Int) (a586 : Sl Str) (a588 : Str) : Nat → Int → Int → Int → Frame_Cutter → Option (Out Bool (Int × Int × Int × Frame_Cutter))
  | 0, _, _, _, _ => none
  | n + 1, x589, x590, x591, b592 =>
    if decide (x590 < (Str.len a588)) then
    Option.bind (if decide (x591 < (Sl.len a585)) then
    Option.bind (Sl.at? a585 x591) fun y718 =>
    Option.bind (rem? y718 40) fun z719 =>
    some (imin (sb .i64 (Str.len a588) x590) (ad .i64 (cv .i64 z719) 1))
    else
    some (sb .i64 (Str.len a588) x590)) fun y717 =>
    Option.bind (Str.sub? a588 x590 (ad .i64 x590 y717)) fun z721 =>
    Option.bind (F12 k b592 z721) fun y722 =>
    if y722.2 != 0 then
    some (Out.ret false)
    else
    Option.bind (F3_L4 k a585 a586 a588 (ad .i64 x590 y717) x591 k x589 y722.1) fun y826 =>
    match y826 with
    | .ret y826r => some (Out.ret y826r)
    | .brk y826b =>
    F3_L2 k a585 a586 a588 n y826b.1 (ad .i64 x590 y717) (ad .i64 x591 1) y826b.2
    else
    some (Out.brk (x589, x590, x591, b592))
/-- prefect/prefectlaw3.FrameCuts -/
def F3 (k : Nat) (a0 : Sl Api_Element) (a1 : Sl Int) : Option Bool :=
  Option.bind (F9 k ) fun y1 =>
  if !y1 then
  some false
  else
  if decide ((Sl.len a0) > 8) then
  some true
  else
  Option.bind (F3_L0 k a0 a1 k none [] 0) fun y104 =>
  match y104 with
  | .ret y104r => some y104r
  | .brk y104b =>
  Option.bind (F11 k ) fun y107 =>
  Option.bind (F3_L2 k a1 y104b.1 y104b.2.1 k 0 0 0 y107) fun y829 =>
  match y829 with
  | .ret y829r => some y829r
  | .brk y829b =>
  Option.bind (if y829b.1 == (Sl.len y104b.1) then
  Option.bind (F14 k y829b.2.2.2 ) fun y834 =>
  some (y834.2 == 0, y834.1)
  else
  some (false, y829b.2.2.2)) fun y833 =>
  some y833.1
theorem l3_L0 {k : Nat} {a73 : Sl Api_Element} {a74 : Sl Int} {S0 : List SObj} {R : List Nat} {K : KX}  {o : Out Bool ((Sl Str) × Str × Int)}
    (hret : ∀ r : Bool, o = .ret r → ∀ {σ' : Nat → PV} {S' : List SObj}, Known [(4, (.bool r))] σ' → Hp S0 R S' [] [] → K .ret σ' S' false)
    (hbrk : ∀ y : (Sl Str) × Str × Int, o = .brk y → ∀ {σ' : Nat → PV} {S' : List SObj}, ∀ (v103 : PV) (_ : IsSl eS y.1 v103), Known [(1, (encSl (eI .u8) a74)), (5, v103), (6, (.str y.2.1)), (7, (.int .i64 y.2.2))] σ' → Hp S0 R S' [] [(v103, 1)] → K (.exit 0) σ' S' false) :
    ∀ {n : Nat} {x75 : Sl Str} {x77 : Str} {x78 : Int}, F3_L0 k a73 a74 n x75 x77 x78 = some o → ∀ {σ : Nat → PV} {S : List SObj}, ∀ (v76 : PV) (_ : IsSl eS x75 v76), Known [(0, (encSl e_Api_Element a73)), (1, (encSl (eI .u8) a74)), (5, v76), (6, (.str x77)), (7, (.int .i64 x78))] σ → Hp S0 R S [] [(v76, 1)] → WC env ⟨126, S0.length⟩ (.loop pc3L0) σ S false K := by
  intro n
  induction n with
  | zero => intro _ _ _ h; cases h
  | succ n ih =>
    intro x75 x77 x78 h σ S v76 hv76 hk H
    rw [F3_L0] at h
    refine WC.loop ?_
    refine WC.of_known hk ?_
    refine WC.seq ?_
    refine WC.seqR ?_
    refine WO.step (v := (.int .i64 x78)) rfl rfl ?_
    refine WO.step (v := (encSl e_Api_Element a73)) rfl rfl ?_
    refine WO.step (v := (.int .i64 (Sl.len a73))) rfl (stp_len rfl (isSl_enc _ _) rfl) ?_
    refine WO.step (v := (.bool (decide (x78 < (Sl.len a73))))) rfl rfl ?_
    refine WO.nil ?_
    rcases iteS h with ⟨hc102, h⟩ | ⟨hc102, h⟩
    · refine WC.condT rfl hc102 ?_
      refine WC.skip ?_
      refine KX.seq_n ?_
      refine WC.seq ?_
      refine WC.block ?_
      refine WC.seqR ?_
      refine WO.step (v := (encSl e_Api_Element a73)) rfl rfl ?_
      refine WO.step (v := (.int .i64 x78)) rfl rfl ?_
      obtain ⟨y91, hy91, h⟩ := bindS h
      refine WO.step (v := (.iptr [(.int .u8 y91.Tag), (.str y91.Body), (encSl e_Api_Element y91.Kids)] 0)) rfl (stp_idxAddr rfl (isSl_enc _ _) rfl rfl rfl hy91 (e_Api_Element_cells _) rfl) ?_
      refine WO.step (v := (.agg [(.int .u8 y91.Tag), (.str y91.Body), (encSl e_Api_Element y91.Kids)])) rfl rfl ?_
      refine WO.alloc' (ti := ty27) rfl rfl rfl rfl H ?_
      intro i92 S hi92 H
      refine WO.store 0 rfl H rfl rfl rfl rfl rfl rfl rfl (Nat.le_of_ble_eq_true rfl) rfl (own_e hi92) ?_
      intro S H
      replace H : Hp S0 R _ [(i92, [(.int .u8 y91.Tag), (.str y91.Body), (encSl e_Api_Element y91.Kids)])] [(v76, 1)] := H
      refine WO.nil ?_
      refine WC.seqR ?_
      refine WO.step (v := (.ptr i92 2)) rfl rfl ?_
      refine WO.store 0 rfl H rfl rfl rfl rfl rfl rfl rfl (Nat.le_of_ble_eq_true rfl) rfl (own_e hi92) ?_
      intro S H
      replace H : Hp S0 R _ [(i92, [(.int .u8 y91.Tag), (.str y91.Body), .nils])] [(v76, 1)] := H
      refine WO.nil ?_
      refine WC.seqR ?_
      refine WO.step (v := (.ptr i92 0)) rfl rfl ?_
      refine WO.step (v := (.int .u8 y91.Tag)) rfl (stp_load rfl (H.get 0 rfl) rfl) ?_
      refine WO.step (v := (.int .u8 (bNot .u8 y91.Tag 33))) rfl rfl ?_
      refine WO.step (v := (.ptr i92 0)) rfl rfl ?_
      refine WO.store 0 rfl H rfl rfl rfl rfl rfl rfl rfl (Nat.le_of_ble_eq_true rfl) rfl (own_e hi92) ?_
      intro S H
      replace H : Hp S0 R _ [(i92, [(.int .u8 (bNot .u8 y91.Tag 33)), (.str y91.Body), .nils])] [(v76, 1)] := H
      refine WO.nil ?_
      refine WC.seq ?_
      refine WC.seqR ?_
      refine WO.step (v := (.ptr i92 1)) rfl rfl ?_
      refine WO.step (v := (.str y91.Body)) rfl (stp_load rfl (H.get 0 rfl) rfl) ?_
      refine WO.step (v := (.int .i64 (Str.len y91.Body))) rfl rfl ?_
      refine WO.step (v := (.bool (decide ((Str.len y91.Body) > 300)))) rfl rfl ?_
      refine WO.nil ?_
      rcases iteS h with ⟨hc101, h⟩ | ⟨hc101, h⟩
      · refine WC.condT rfl hc101 ?_
        refine WC.seqR ?_
        refine WO.step (v := (.bool true)) rfl rfl ?_
        refine WO.nil ?_
        refine WC.ret ?_
        refine KX.seq_r ?_
        refine KX.block_r ?_
        refine KX.seq_r ?_
        refine KX.seq_r ?_
        obtain rfl := Option.some.inj h
        exact hret _ rfl (known_cons rfl known_nil) (H.sub (.cons _ .slnil) (.cons _ .slnil))
      · refine WC.condF rfl hc101 ?_
        refine WC.skip ?_
        refine KX.seq_n ?_
        refine WC.seqR ?_
        refine WO.step (v := (.agg [(.int .u8 (bNot .u8 y91.Tag 33)), (.str y91.Body), .nils])) rfl (stp_load rfl (H.get 0 rfl) rfl) ?_
        obtain ⟨y94, hy94, h⟩ := bindS h
        refine WO.step (v := (.tup [(.str y94.1), (.int .i64 y94.2)])) rfl (stp_call (vs := [(.agg [(.int .u8 (bNot .u8 y91.Tag 33)), (.str y91.Body), .nils])]) rfl rfl (s10 _ hy94 (by simp only [st_agg, List.map_cons, List.map_nil, st1_int, st1_str, st1_nils, encSl_none, e_Api_Element_eq, tupled]) _)) ?_
        refine WO.step (v := (.tup [(.str y94.1), (.int .i64 y94.2)])) rfl rfl ?_
        refine WO.step (v := (.str y94.1)) rfl rfl ?_
        refine WO.step (v := (.int .i64 y94.2)) rfl rfl ?_
        refine WO.step (v := (.str y94.1)) rfl rfl ?_
        refine WO.step (v := (.int .i64 y94.2)) rfl rfl ?_
        refine WO.nil ?_
        refine WC.seq ?_
        refine WC.seqR ?_
        refine WO.step (v := (.int .i64 y94.2)) rfl rfl ?_
        refine WO.step (v := (.bool (y94.2 != 0))) rfl rfl ?_
        refine WO.nil ?_
        rcases iteS h with ⟨hc100, h⟩ | ⟨hc100, h⟩
        · refine WC.condT rfl hc100 ?_
          refine WC.seqR ?_
          refine WO.step (v := (.bool true)) rfl rfl ?_
          refine WO.nil ?_
          refine WC.ret ?_
          refine KX.seq_r ?_
          refine KX.block_r ?_
          refine KX.seq_r ?_
          refine KX.seq_r ?_
          obtain rfl := Option.some.inj h
          exact hret _ rfl (known_cons rfl known_nil) (H.sub (.cons _ .slnil) (.cons _ .slnil))
        · refine WC.condF rfl hc100 ?_
          refine WC.skip ?_
          refine KX.seq_n ?_
          refine WC.seqR ?_
          refine WO.step (v := v76) rfl rfl ?_
          refine WO.step (v := (.str y94.1)) rfl rfl ?_
          refine WO.step rfl (stp_buildSlice (ys := [y94.1]) (f := eS) (parts := [(0, (.str y94.1))]) rfl rfl rfl rfl rfl rfl (fc ⟨rfl, rfl⟩ (fun p hp => nomatch hp)) rfl) ?_
          have hv96 : IsSl eS (some [y94.1]) _ := ⟨.full, rfl⟩
          obtain ⟨z97, hz97, h⟩ := bindS h
          refine WO.ex rfl (stp_app (f := eS) (ei := ty9) H 0 rfl rfl hv76 rfl hv96 rfl rfl rfl rfl (fun _ => rfl) hz97) ?_
          rintro v98 S ⟨hv98, H⟩
          replace H : Hp S0 R _ [(i92, [(.int .u8 (bNot .u8 y91.Tag 33)), (.str y91.Body), .nils])] [(v98, 1)] := H
          refine WO.step (v := v98) rfl rfl ?_
          refine WO.nil ?_
          refine WC.region ?_
          refine WO.step (v := (.str x77)) rfl rfl ?_
          refine WO.step (v := (.str y94.1)) rfl rfl ?_
          obtain ⟨z99, hz99, h⟩ := bindS h
          refine WO.step (v := (.str z99)) rfl (stp_strApp rfl rfl hz99) ?_
          refine WO.step (v := (.str z99)) rfl rfl ?_
          refine WO.nil ?_
          refine KX.block_n ?_
          refine KX.seq_n ?_
          refine WC.region ?_
          refine WO.step (v := (.int .i64 x78)) rfl rfl ?_
          refine WO.step (v := (.int .i64 (ad .i64 x78 1))) rfl rfl ?_
          refine WO.step (v := (.int .i64 (ad .i64 x78 1))) rfl rfl ?_
          refine WO.nil ?_
          refine KX.seq_n ?_
          exact ih h v98 (hv98) (known_cons rfl (known_cons rfl (known_cons rfl (known_cons rfl (known_cons rfl known_nil))))) (H.sub (.cons _ .slnil) (.cons_cons _ .slnil))
    · refine WC.condF rfl hc102 ?_
      refine WC.exit ?_
      refine KX.seq_x ?_
      refine KX.seq_x ?_
      obtain rfl := Option.some.inj h
      exact hbrk _ rfl v76 (hv76) (known_cons rfl (known_cons rfl (known_cons rfl (known_cons rfl known_nil)))) (H.sub .slnil (.cons_cons _ .slnil))
theorem l3_L4 {k : Nat} {a792 : Sl Int} {a793 : Sl Str} {a795 : Str} {a797 : Int} {a798 : Int} {S0 : List SObj} {R : List Nat} {K : KX} {i106 : Nat} (hi106 : S0.length ≤ i106) {v794 : PV} (hv794 : IsSl eS a793 v794)  {o : Out Bool (Int × Frame_Cutter)}
    (hret : ∀ r : Bool, o = .ret r → ∀ {σ' : Nat → PV} {S' : List SObj}, Known [(4, (.bool r))] σ' → Hp S0 R S' [] [] → K .ret σ' S' false)
    (hbrk : ∀ y : Int × Frame_Cutter, o = .brk y → ∀ {σ' : Nat → PV} {S' : List SObj}, Known [(1, (encSl (eI .u8) a792)), (5, v794), (6, (.str a795)), (11, (.ptr i106 0)), (12, (.int .i64 y.1)), (13, (.int .i64 a797)), (14, (.int .i64 a798))] σ' → Hp S0 R S' [(i106, [(.str y.2.s_)])] [] → K (.exit 4) σ' S' false) :
    ∀ {n : Nat} {x796 : Int} {b799 : Frame_Cutter}, F3_L4 k a792 a793 a795 a797 a798 n x796 b799 = some o → ∀ {σ : Nat → PV} {S : List SObj}, Known [(1, (encSl (eI .u8) a792)), (5, v794), (6, (.str a795)), (11, (.ptr i106 0)), (12, (.int .i64 x796)), (13, (.int .i64 a797)), (14, (.int .i64 a798))] σ → Hp S0 R S [(i106, [(.str b799.s_)])] [] → WC env ⟨126, S0.length⟩ (.loop pc3L4) σ S false K := by
  intro n
  induction n with
  | zero => intro _ _ h; cases h
  | succ n ih =>
    intro x796 b799 h σ S  hk H
    rw [F3_L4] at h
    refine WC.loop ?_
    refine WC.of_known hk ?_
    refine WC.block ?_
    refine WC.seqR ?_
    refine WO.step (v := (.ptr i106 0)) rfl rfl ?_
    obtain ⟨y813, hy813, h⟩ := bindS h
    refine WO.callR 0 rfl rfl rfl H rfl (s13 _ hy813 (H.get 0 rfl)) ?_
    intro S H
    replace H : Hp S0 R _ [(i106, [(.str y813.1.s_)])] [] := H
    refine WO.step (v := (.tup [(.str y813.2.1), (.int .i64 y813.2.2)])) rfl rfl ?_
    refine WO.step (v := (.str y813.2.1)) rfl rfl ?_
    refine WO.step (v := (.int .i64 y813.2.2)) rfl rfl ?_
    refine WO.step (v := (.str y813.2.1)) rfl rfl ?_
    refine WO.step (v := (.int .i64 y813.2.2)) rfl rfl ?_
    refine WO.nil ?_
    refine WC.seq ?_
    refine WC.seqR ?_
    refine WO.step (v := (.int .i64 y813.2.2)) rfl rfl ?_
    refine WO.step (v := (.bool (y813.2.2 == 10))) rfl rfl ?_
    refine WO.nil ?_
    rcases iteS h with ⟨hc825, h⟩ | ⟨hc825, h⟩
    · refine WC.condT rfl hc825 ?_
      refine WC.exit ?_
      refine KX.seq_x ?_
      refine KX.block_y rfl ?_
      refine KX.seq_x ?_
      obtain rfl := Option.some.inj h
      exact hbrk _ rfl  (known_cons rfl (known_cons rfl (known_cons rfl (known_cons rfl (known_cons rfl (known_cons rfl (known_cons rfl known_nil))))))) (H.sub (.cons_cons _ .slnil) .slnil)
    · refine WC.condF rfl hc825 ?_
      refine WC.skip ?_
      refine KX.seq_n ?_
      refine WC.seq ?_
      refine WC.seqR ?_
      refine WO.step (v := (.int .i64 y813.2.2)) rfl rfl ?_
      refine WO.step (v := (.bool (y813.2.2 != 0))) rfl rfl ?_
      refine WO.step (v := (.bool (y813.2.2 != 0))) rfl rfl ?_
      refine WO.split 5 (fun σ' S' e' => Known ([(1, (encSl (eI .u8) a792)), (5, v794), (6, (.str a795)), (11, (.ptr i106 0)), (12, (.int .i64 x796)), (13, (.int .i64 a797)), (14, (.int .i64 a798)), (16, (.str y813.2.1)), (106, (.bool ((y813.2.2 != 0) || (decide (x796 ≥ (Sl.len a793))))))]) σ' ∧ Hp S0 R S' [(i106, [(.str y813.1.s_)])] [] ∧ e' = false) ?_ ?_
      · cases hc815 : (y813.2.2 != 0)
        · skip
          refine WO.go0 rfl rfl ?_
          refine WO.step (v := (.int .i64 x796)) rfl rfl ?_
          refine WO.go0 rfl rfl ?_
          refine WO.step (v := v794) rfl rfl ?_
          refine WO.go0 rfl rfl ?_
          refine WO.step (v := (.int .i64 (Sl.len a793))) rfl (stp_len rfl hv794 rfl) ?_
          refine WO.go0 rfl rfl ?_
          refine WO.step (v := (.bool (decide (x796 ≥ (Sl.len a793))))) rfl rfl ?_
          refine WO.step (v := (.bool (decide (x796 ≥ (Sl.len a793))))) rfl rfl ?_
          refine WO.nil ?_
          exact ⟨(known_cons rfl (known_cons rfl (known_cons rfl (known_cons rfl (known_cons rfl (known_cons rfl (known_cons rfl (known_cons rfl (known_cons rfl known_nil))))))))), H, rfl⟩
        · skip
          refine WO.by rfl rfl rfl ?_
          refine WO.by rfl rfl rfl ?_
          refine WO.by rfl rfl rfl ?_
          refine WO.by rfl rfl rfl ?_
          refine WO.step (v := (.bool true)) rfl rfl ?_
          refine WO.nil ?_
          exact ⟨(known_cons rfl (known_cons rfl (known_cons rfl (known_cons rfl (known_cons rfl (known_cons rfl (known_cons rfl (known_cons rfl (known_cons rfl known_nil))))))))), H, rfl⟩
      · rintro σ S e ⟨hk, H, rfl⟩
        refine WO.of_known hk ?_
        refine WO.step (v := (.bool ((y813.2.2 != 0) || (decide (x796 ≥ (Sl.len a793)))))) rfl rfl ?_
        obtain ⟨y820, hy820, hOy820⟩ := bindS h
        refine WO.split 7 (fun σ' S' e' => Known ([(1, (encSl (eI .u8) a792)), (5, v794), (6, (.str a795)), (11, (.ptr i106 0)), (12, (.int .i64 x796)), (13, (.int .i64 a797)), (14, (.int .i64 a798)), (114, (.bool y820))]) σ' ∧ Hp S0 R S' [(i106, [(.str y813.1.s_)])] [] ∧ e' = false) ?_ ?_
        · replace h := hy820
          cases hc822 : ((y813.2.2 != 0) || (decide (x796 ≥ (Sl.len a793))))
          · replace h := iteF h hc822
            refine WO.go0 rfl rfl ?_
            refine WO.step (v := (.str y813.2.1)) rfl rfl ?_
            refine WO.go0 rfl rfl ?_
            refine WO.step (v := v794) rfl rfl ?_
            refine WO.go0 rfl rfl ?_
            refine WO.step (v := (.int .i64 x796)) rfl rfl ?_
            refine WO.go0 rfl rfl ?_
            obtain ⟨y821, hy821, h⟩ := bindS h
            refine WO.step (v := (.iptr [(.str y821)] 0)) rfl (stp_idxAddr rfl hv794 rfl rfl rfl hy821 rfl rfl) ?_
            refine WO.go0 rfl rfl ?_
            refine WO.step (v := (.str y821)) rfl rfl ?_
            refine WO.go0 rfl rfl ?_
            refine WO.step (v := (.bool (!(y813.2.1 == y821)))) rfl rfl ?_
            refine WO.step (v := (.bool (!(y813.2.1 == y821)))) rfl rfl ?_
            refine WO.nil ?_
            obtain rfl := Option.some.inj h
            exact ⟨(known_cons rfl (known_cons rfl (known_cons rfl (known_cons rfl (known_cons rfl (known_cons rfl (known_cons rfl (known_cons rfl known_nil)))))))), (H.sub (.cons_cons _ .slnil) .slnil), rfl⟩
          · replace h := iteT h hc822
            refine WO.by rfl rfl rfl ?_
            refine WO.by rfl rfl rfl ?_
            refine WO.by rfl rfl rfl ?_
            refine WO.by rfl rfl rfl ?_
            refine WO.by rfl rfl rfl ?_
            refine WO.by rfl rfl rfl ?_
            refine WO.step (v := (.bool true)) rfl rfl ?_
            refine WO.nil ?_
            obtain rfl := Option.some.inj h
            exact ⟨(known_cons rfl (known_cons rfl (known_cons rfl (known_cons rfl (known_cons rfl (known_cons rfl (known_cons rfl (known_cons rfl known_nil)))))))), (H.sub (.cons_cons _ .slnil) .slnil), rfl⟩
        · rintro σ S e ⟨hk, H, rfl⟩
          replace h := hOy820
          refine WO.of_known hk ?_
          refine WO.nil ?_
          rcases iteS h with ⟨hc824, h⟩ | ⟨hc824, h⟩
          · refine WC.condT rfl hc824 ?_
            refine WC.seqR ?_
            refine WO.step (v := (.bool false)) rfl rfl ?_
            refine WO.nil ?_
            refine WC.ret ?_
            refine KX.seq_r ?_
            refine KX.block_r ?_
            refine KX.seq_r ?_
            obtain rfl := Option.some.inj h
            exact hret _ rfl (known_cons rfl known_nil) (H.sub (.cons _ .slnil) .slnil)
          · refine WC.condF rfl hc824 ?_
            refine WC.skip ?_
            refine KX.seq_n ?_
            refine WC.region ?_
            refine WO.step (v := (.int .i64 x796)) rfl rfl ?_
            refine WO.step (v := (.int .i64 (ad .i64 x796 1))) rfl rfl ?_
            refine WO.step (v := (.int .i64 (ad .i64 x796 1))) rfl rfl ?_
            refine WO.nil ?_
            refine KX.block_n ?_
            refine KX.seq_n ?_
            exact ih h  (known_cons rfl (known_cons rfl (known_cons rfl (known_cons rfl (known_cons rfl (known_cons rfl (known_cons rfl known_nil))))))) (H.sub (.cons_cons _ .slnil) .slnil)
theorem l3_L2 {k : Nat} {a585 : Sl Int} {a586 : Sl Str} {a588 : Str} {S0 : List SObj} {R : List Nat} {K : KX} {i106 : Nat} (hi106 : S0.length ≤ i106) {v587 : PV} (hv587 : IsSl eS a586 v587)  {o : Out Bool (Int × Int × Int × Frame_Cutter)}
    (hret : ∀ r : Bool, o = .ret r → ∀ {σ' : Nat → PV} {S' : List SObj}, Known [(4, (.bool r))] σ' → Hp S0 R S' [] [] → K .ret σ' S' false)
    (hbrk : ∀ y : Int × Int × Int × Frame_Cutter, o = .brk y → ∀ {σ' : Nat → PV} {S' : List SObj}, Known [(5, v587), (11, (.ptr i106 0)), (12, (.int .i64 y.1)), (13, (.int .i64 y.2.1)), (14, (.int .i64 y.2.2.1))] σ' → Hp S0 R S' [(i106, [(.str y.2.2.2.s_)])] [] → K (.exit 2) σ' S' false) :
    ∀ {n : Nat} {x589 : Int} {x590 : Int} {x591 : Int} {b592 : Frame_Cutter}, F3_L2 k a585 a586 a588 n x589 x590 x591 b592 = some o → ∀ {σ : Nat → PV} {S : List SObj}, Known [(1, (encSl (eI .u8) a585)), (5, v587), (6, (.str a588)), (11, (.ptr i106 0)), (12, (.int .i64 x589)), (13, (.int .i64 x590)), (14, (.int .i64 x591))] σ → Hp S0 R S [(i106, [(.str b592.s_)])] [] → WC env ⟨126, S0.length⟩ (.loop pc3L2) σ S false K := by
  intro n
  induction n with
  | zero => intro _ _ _ _ h; cases h
  | succ n ih =>
    intro x589 x590 x591 b592 h σ S  hk H
    rw [F3_L2] at h
    refine WC.loop ?_
    refine WC.of_known hk ?_
    refine WC.seq ?_
    refine WC.seqR ?_
    refine WO.step (v := (.int .i64 x590)) rfl rfl ?_
    refine WO.step (v := (.str a588)) rfl rfl ?_
    refine WO.step (v := (.int .i64 (Str.len a588))) rfl rfl ?_
    refine WO.step (v := (.bool (decide (x590 < (Str.len a588))))) rfl rfl ?_
    refine WO.nil ?_
    rcases iteS h with ⟨hc828, h⟩ | ⟨hc828, h⟩
    · refine WC.condT rfl hc828 ?_
      refine WC.skip ?_
      refine KX.seq_n ?_
      refine WC.seq ?_
      refine WC.block ?_
      refine WC.seqR ?_
      refine WO.step (v := (.str a588)) rfl rfl ?_
      refine WO.step (v := (.int .i64 (Str.len a588))) rfl rfl ?_
      refine WO.step (v := (.int .i64 x590)) rfl rfl ?_
      refine WO.step (v := (.int .i64 (sb .i64 (Str.len a588) x590))) rfl rfl ?_
      refine WO.step (v := (.int .i64 (sb .i64 (Str.len a588) x590))) rfl rfl ?_
      refine WO.nil ?_
      refine WC.seq ?_
      refine WC.seqR ?_
      refine WO.step (v := (.int .i64 x591)) rfl rfl ?_
      refine WO.step (v := (encSl (eI .u8) a585)) rfl rfl ?_
      refine WO.step (v := (.int .i64 (Sl.len a585))) rfl (stp_len rfl (isSl_enc _ _) rfl) ?_
      refine WO.step (v := (.bool (decide (x591 < (Sl.len a585))))) rfl rfl ?_
      refine WO.nil ?_
      obtain ⟨y717, hy717, hOy717⟩ := bindS h
      refine WC.join (fun σ' S' e' => Known ([(1, (encSl (eI .u8) a585)), (5, v587), (6, (.str a588)), (11, (.ptr i106 0)), (12, (.int .i64 x589)), (13, (.int .i64 x590)), (14, (.int .i64 x591)), (15, (.int .i64 y717))]) σ' ∧ Hp S0 R S' [(i106, [(.str b592.s_)])] [] ∧ e' = false) ?_ ?_
      · replace h := hy717
        rcases iteS h with ⟨hc720, h⟩ | ⟨hc720, h⟩
        · refine WC.condT rfl hc720 ?_
          refine WC.region ?_
          refine WO.step (v := (.int .i64 (sb .i64 (Str.len a588) x590))) rfl rfl ?_
          refine WO.step (v := (encSl (eI .u8) a585)) rfl rfl ?_
          refine WO.step (v := (.int .i64 x591)) rfl rfl ?_
          obtain ⟨y718, hy718, h⟩ := bindS h
          refine WO.step (v := (.iptr [(.int .u8 y718)] 0)) rfl (stp_idxAddr rfl (isSl_enc _ _) rfl rfl rfl hy718 rfl rfl) ?_
          refine WO.step (v := (.int .u8 y718)) rfl rfl ?_
          obtain ⟨z719, hz719, h⟩ := bindS h
          refine WO.step (v := (.int .u8 z719)) rfl (stp_rem rfl rfl hz719) ?_
          refine WO.step (v := (.int .i64 (cv .i64 z719))) rfl rfl ?_
          refine WO.step (v := (.int .i64 (ad .i64 (cv .i64 z719) 1))) rfl rfl ?_
          refine WO.step (v := (.int .i64 (imin (sb .i64 (Str.len a588) x590) (ad .i64 (cv .i64 z719) 1)))) rfl rfl ?_
          refine WO.step (v := (.int .i64 (imin (sb .i64 (Str.len a588) x590) (ad .i64 (cv .i64 z719) 1)))) rfl rfl ?_
          refine WO.nil ?_
          refine KX.seq_n ?_
          obtain rfl := Option.some.inj h
          exact ⟨(known_cons rfl (known_cons rfl (known_cons rfl (known_cons rfl (known_cons rfl (known_cons rfl (known_cons rfl (known_cons rfl known_nil)))))))), (H.sub (.cons_cons _ .slnil) .slnil), rfl⟩
        · refine WC.condF rfl hc720 ?_
          refine WC.skip ?_
          refine KX.seq_n ?_
          obtain rfl := Option.some.inj h
          exact ⟨(known_cons rfl (known_cons rfl (known_cons rfl (known_cons rfl (known_cons rfl (known_cons rfl (known_cons rfl (known_cons rfl known_nil)))))))), (H.sub (.cons_cons _ .slnil) .slnil), rfl⟩
      · rintro σ S e ⟨hk, H, rfl⟩
        replace h := hOy717
        refine KX.of_known hk ?_
        refine KX.seq_n ?_
        refine WC.seq ?_
        refine WC.seqR ?_
        refine WO.step (v := (.ptr i106 0)) rfl rfl ?_
        refine WO.step (v := (.str a588)) rfl rfl ?_
        refine WO.step (v := (.int .i64 x590)) rfl rfl ?_
        refine WO.step (v := (.int .i64 x590)) rfl rfl ?_
        refine WO.step (v := (.int .i64 y717)) rfl rfl ?_
        refine WO.step (v := (.int .i64 (ad .i64 x590 y717))) rfl rfl ?_
        obtain ⟨z721, hz721, h⟩ := bindS h
        refine WO.step (v := (.str z721)) rfl (stp_subStr rfl rfl rfl rfl hz721) ?_
        obtain ⟨y722, hy722, h⟩ := bindS h
        refine WO.callR 0 rfl rfl rfl H rfl (s12 _ hy722 (H.get 0 rfl)) ?_
        intro S H
        replace H : Hp S0 R _ [(i106, [(.str y722.1.s_)])] [] := H
        refine WO.step (v := (.bool (y722.2 != 0))) rfl rfl ?_
        refine WO.nil ?_
        rcases iteS h with ⟨hc827, h⟩ | ⟨hc827, h⟩
        · refine WC.condT rfl hc827 ?_
          refine WC.seqR ?_
          refine WO.step (v := (.bool false)) rfl rfl ?_
          refine WO.nil ?_
          refine WC.ret ?_
          refine KX.seq_r ?_
          refine KX.block_r ?_
          refine KX.seq_r ?_
          refine KX.seq_r ?_
          obtain rfl := Option.some.inj h
          exact hret _ rfl (known_cons rfl known_nil) (H.sub (.cons _ .slnil) .slnil)
        · refine WC.condF rfl hc827 ?_
          refine WC.skip ?_
          refine KX.seq_n ?_
          refine WC.seqR ?_
          refine WO.step (v := (.int .i64 x590)) rfl rfl ?_
          refine WO.step (v := (.int .i64 y717)) rfl rfl ?_
          refine WO.step (v := (.int .i64 (ad .i64 x590 y717))) rfl rfl ?_
          refine WO.step (v := (.int .i64 (ad .i64 x590 y717))) rfl rfl ?_
          refine WO.nil ?_
          obtain ⟨y826, hy826, hOy826⟩ := bindS h
          refine WC.block ?_
          refine l3_L4 hi106 (hv587) ?_ ?_ hy826  (known_cons rfl (known_cons rfl (known_cons rfl (known_cons rfl (known_cons rfl (known_cons rfl (known_cons rfl known_nil))))))) (H.sub (.cons_cons _ .slnil) .slnil)
          · intro y826r he σ S  hk H; subst he; replace h := hOy826; dsimp only at h
            refine KX.of_known hk ?_
            refine KX.block_r ?_
            refine KX.block_r ?_
            refine KX.seq_r ?_
            refine KX.seq_r ?_
            obtain rfl := Option.some.inj h
            exact hret _ rfl (known_cons rfl known_nil) (H.sub .slnil .slnil)
          · intro y826b he σ S  hk H; subst he; replace h := hOy826; dsimp only at h
            refine KX.of_known hk ?_
            refine KX.block_x ?_
            refine KX.block_n ?_
            refine KX.seq_n ?_
            refine WC.region ?_
            refine WO.step (v := (.int .i64 x591)) rfl rfl ?_
            refine WO.step (v := (.int .i64 (ad .i64 x591 1))) rfl rfl ?_
            refine WO.step (v := (.int .i64 (ad .i64 x591 1))) rfl rfl ?_
            refine WO.nil ?_
            refine KX.seq_n ?_
            exact ih h  (known_cons rfl (known_cons rfl (known_cons rfl (known_cons rfl (known_cons rfl (known_cons rfl (known_cons rfl known_nil))))))) (H.sub (.cons_cons _ .slnil) .slnil)
    · refine WC.condF rfl hc828 ?_
      refine WC.exit ?_
      refine KX.seq_x ?_
      refine KX.seq_x ?_
      obtain rfl := Option.some.inj h
      exact hbrk _ rfl  (known_cons rfl (known_cons rfl (known_cons rfl (known_cons rfl (known_cons rfl known_nil))))) (H.sub (.cons_cons _ .slnil) .slnil)
theorem s3 : ∀ k : Nat, ∀ {a0 : Sl Api_Element} {a1 : Sl Int} {r : Bool}, F3 k a0 a1 = some r → ∀ {vs : List PV}, vs.map PV.strip = [(encSl e_Api_Element a0), (encSl (eI .u8) a1)] → ∀ S : List SObj, evw env 3 vs S = some ((.bool r), S, false) := by
  intro k a0 a1 r h vs ha S
  unfold F3 at h
  refine evw_pureW (pf := fn3) rfl rfl ha (Nat.le_of_ble_eq_true rfl) (by simp [PV.clean, cleanL, clean_encSl (clean_eI .u8), clean_encSl clean_Api_Element]) rfl ?_
  refine WB.of (pf := fn3) rfl ?_
  have H := Hp.start []
  refine WC.seqR ?_
  refine WO.step (v := (.bool false)) rfl rfl ?_
  refine WO.nil ?_
  refine WC.seq ?_
  refine WC.seqR ?_
  obtain ⟨y1, hy1, h⟩ := bindS h
  refine WO.step (v := (.bool y1)) rfl (stp_call (vs := []) rfl rfl (s9 _ hy1 rfl _)) ?_
  refine WO.step (v := (.bool (!y1))) rfl rfl ?_
  refine WO.nil ?_
  rcases iteS h with ⟨hc837, h⟩ | ⟨hc837, h⟩
  · refine WC.condT rfl hc837 ?_
    refine WC.seqR ?_
    refine WO.step (v := (.bool false)) rfl rfl ?_
    refine WO.nil ?_
    refine WC.ret ?_
    refine KX.seq_r ?_
    obtain rfl := Option.some.inj h
    refine KB.ret (vs := [(.bool false)]) (res_tmp rfl res_nil) ?_
    exact rfl
  · refine WC.condF rfl hc837 ?_
    refine WC.skip ?_
    refine KX.seq_n ?_
    refine WC.seq ?_
    refine WC.seqR ?_
    refine WO.step (v := (encSl e_Api_Element a0)) rfl rfl ?_
    refine WO.step (v := (.int .i64 (Sl.len a0))) rfl (stp_len rfl (isSl_enc _ _) rfl) ?_
    refine WO.step (v := (.bool (decide ((Sl.len a0) > 8)))) rfl rfl ?_
    refine WO.nil ?_
    rcases iteS h with ⟨hc836, h⟩ | ⟨hc836, h⟩
    · refine WC.condT rfl hc836 ?_
      refine WC.seqR ?_
      refine WO.step (v := (.bool true)) rfl rfl ?_
      refine WO.nil ?_
      refine WC.ret ?_
      refine KX.seq_r ?_
      obtain rfl := Option.some.inj h
      refine KB.ret (vs := [(.bool true)]) (res_tmp rfl res_nil) ?_
      exact rfl
    · refine WC.condF rfl hc836 ?_
      refine WC.skip ?_
      refine KX.seq_n ?_
      refine WC.seqR ?_
      refine WO.step (v := .nils) rfl rfl ?_
      refine WO.nil ?_
      refine WC.seqR ?_
      refine WO.step (v := (.str [])) rfl rfl ?_
      refine WO.nil ?_
      refine WC.seq ?_
      refine WC.seqR ?_
      refine WO.step (v := (.int .i64 0)) rfl rfl ?_
      refine WO.nil ?_
      obtain ⟨y104, hy104, hOy104⟩ := bindS h
      refine WC.block ?_
      have H := H.addNil 1
      refine l3_L0 ?_ ?_ hy104 .nils ((isSl_nil _)) (known_cons rfl (known_cons rfl (known_cons rfl (known_cons rfl (known_cons rfl known_nil))))) (H.sub .slnil (.cons_cons _ .slnil))
      · intro y104r he σ S  hk H; subst he; replace h := hOy104; dsimp only at h
        refine KX.of_known hk ?_
        refine KX.block_r ?_
        refine KX.seq_r ?_
        obtain rfl := Option.some.inj h
        refine KB.ret (vs := [(.bool y104r)]) (res_tmp rfl res_nil) ?_
        exact rfl
      · intro y104b he σ S v105 hv105 hk H; subst he; replace h := hOy104; dsimp only at h
        refine KX.of_known hk ?_
        refine KX.block_x ?_
        refine KX.seq_n ?_
        refine WC.seqR ?_
        obtain ⟨y107, hy107, h⟩ := bindS h
        refine WO.callN rfl rfl rfl H (s11 _ hy107 _) ?_
        intro i106 S hi106 H
        refine WO.step (v := (.ptr i106 0)) rfl rfl ?_
        refine WO.nil ?_
        refine WC.seqR ?_
        refine WO.step (v := (.int .i64 0)) rfl rfl ?_
        refine WO.nil ?_
        refine WC.seq ?_
        refine WC.seqR ?_
        refine WO.step (v := (.int .i64 0)) rfl rfl ?_
        refine WO.step (v := (.int .i64 0)) rfl rfl ?_
        refine WO.nil ?_
        obtain ⟨y829, hy829, hOy829⟩ := bindS h
        refine WC.block ?_
        refine l3_L2 hi106 (hv105) ?_ ?_ hy829  (known_cons rfl (known_cons rfl (known_cons rfl (known_cons rfl (known_cons rfl (known_cons rfl (known_cons rfl known_nil))))))) (H.sub (.cons_cons _ .slnil) (.cons _ .slnil))
        · intro y829r he σ S  hk H; subst he; replace h := hOy829; dsimp only at h
          refine KX.of_known hk ?_
          refine KX.block_r ?_
          refine KX.seq_r ?_
          obtain rfl := Option.some.inj h
          refine KB.ret (vs := [(.bool y829r)]) (res_tmp rfl res_nil) ?_
          exact rfl
        · intro y829b he σ S  hk H; subst he; replace h := hOy829; dsimp only at h
          refine KX.of_known hk ?_
          refine KX.block_x ?_
          refine KX.seq_n ?_
          refine WC.seqR ?_
          refine WO.step (v := (.int .i64 y829b.1)) rfl rfl ?_
          refine WO.step (v := v105) rfl rfl ?_
          refine WO.step (v := (.int .i64 (Sl.len y104b.1))) rfl (stp_len rfl hv105 rfl) ?_
          refine WO.step (v := (.bool (y829b.1 == (Sl.len y104b.1)))) rfl rfl ?_
          refine WO.step (v := (.bool (y829b.1 == (Sl.len y104b.1)))) rfl rfl ?_
          obtain ⟨y833, hy833, hOy833⟩ := bindS h
          refine WO.split 4 (fun σ' S' e' => Known ([(125, (.bool y833.1))]) σ' ∧ Hp [] [] S' [(i106, [(.str y833.2.s_)])] [] ∧ e' = false) ?_ ?_
          · replace h := hy833
            cases hc835 : (y829b.1 == (Sl.len y104b.1))
            · replace h := iteF h hc835
              refine WO.by rfl rfl rfl ?_
              refine WO.by rfl rfl rfl ?_
              refine WO.by rfl rfl rfl ?_
              refine WO.step (v := (.bool false)) rfl rfl ?_
              refine WO.nil ?_
              obtain rfl := Option.some.inj h
              exact ⟨(known_cons rfl known_nil), (H.sub (.cons_cons _ .slnil) .slnil), rfl⟩
            · replace h := iteT h hc835
              refine WO.go0 rfl rfl ?_
              refine WO.step (v := (.ptr i106 0)) rfl rfl ?_
              refine WO.go0 rfl rfl ?_
              obtain ⟨y834, hy834, h⟩ := bindS h
              refine WO.callR 0 rfl rfl rfl H rfl (s14 _ hy834 (H.get 0 rfl)) ?_
              intro S H
              replace H : Hp [] [] _ [(i106, [(.str y834.1.s_)])] [] := H
              refine WO.go0 rfl rfl ?_
              refine WO.step (v := (.bool (y834.2 == 0))) rfl rfl ?_
              refine WO.step (v := (.bool (y834.2 == 0))) rfl rfl ?_
              refine WO.nil ?_
              obtain rfl := Option.some.inj h
              exact ⟨(known_cons rfl known_nil), (H.sub (.cons_cons _ .slnil) .slnil), rfl⟩
          · rintro σ S e ⟨hk, H, rfl⟩
            replace h := hOy833
            refine WO.of_known hk ?_
            refine WO.step (v := (.bool y833.1)) rfl rfl ?_
            refine WO.nil ?_
            refine WC.ret ?_
            obtain rfl := Option.some.inj h
            refine KB.ret (vs := [(.bool y833.1)]) (res_tmp rfl res_nil) ?_
            exact rfl
-- 4 prefect/prefectlaw3.FrameRoom
/-- prefect/prefectlaw3.FrameRoom -/
def F4 (k : Nat) (a0 : Int) (a1 : Int) : Option Bool :=
  Option.bind (F9 k ) fun y1 =>
  if !y1 then
  some false
  else
  Option.bind (F11 k ) fun y4 =>
  Option.bind (rem? (cv .i64 a1) 200) fun z5 =>
  Option.bind (shr? .i64 (ad .i64 z5 10) 8) fun z6 =>
  Option.bind (Str.app? [4, 130] (Str.of (some [cv .u8 z6, cv .u8 (ad .i64 z5 10)]))) fun z8 =>
  Option.bind (Sl.make? 1 (ad .i64 z5 10) 0) fun z9 =>
  Option.bind (Str.app? z8 (Str.of z9)) fun z11 =>
  Option.bind (F12 k y4 z11) fun y12 =>
  if y12.2 != 0 then
  some false
  else
  Option.bind (rem? a0 3) fun z14 =>
  Option.bind (Sl.make? 1 (ad .i64 (sb .i64 (sb .i64 16000 (Str.len z11)) 1) (cv .i64 z14)) 0) fun z15 =>
  Option.bind (F12 k y12.1 (Str.of z15)) fun y17 =>
  Option.bind (if (cv .i64 z14) == 2 then
  some 13
  else
  some 0) fun y20 =>
  Option.bind (F13 k y17.1 ) fun y22 =>
  Option.bind (F12 k y22.1 z11) fun y23 =>
  some ((((y17.2 == y20) && (y22.2.2 == 0)) && (y22.2.1 == z11)) && ((y23.2 == 0) == (((cv .i64 z14) == 2) || (decide ((Str.len z11) ≤ (sb .i64 16000 (ad .i64 (sb .i64 (sb .i64 16000 (Str.len z11)) 1) (cv .i64 z14))))))))
theorem s4 : ∀ k : Nat, ∀ {a0 : Int} {a1 : Int} {r : Bool}, F4 k a0 a1 = some r → ∀ {vs : List PV}, vs.map PV.strip = [(.int .u8 a0), (.int .u16 a1)] → ∀ S : List SObj, evw env 4 vs S = some ((.bool r), S, false) := by
  intro k a0 a1 r h vs ha S
  unfold F4 at h
  refine evw_pureW (pf := fn4) rfl rfl ha (Nat.le_of_ble_eq_true rfl) rfl rfl ?_
  refine WB.of (pf := fn4) rfl ?_
  have H := Hp.start []
  refine WC.seqR ?_
  refine WO.step (v := (.bool false)) rfl rfl ?_
  refine WO.nil ?_
  refine WC.seq ?_
  refine WC.seqR ?_
  obtain ⟨y1, hy1, h⟩ := bindS h
  refine WO.step (v := (.bool y1)) rfl (stp_call (vs := []) rfl rfl (s9 _ hy1 rfl _)) ?_
  refine WO.step (v := (.bool (!y1))) rfl rfl ?_
  refine WO.nil ?_
  rcases iteS h with ⟨hc31, h⟩ | ⟨hc31, h⟩
  · refine WC.condT rfl hc31 ?_
    refine WC.seqR ?_
    refine WO.step (v := (.bool false)) rfl rfl ?_
    refine WO.nil ?_
    refine WC.ret ?_
    refine KX.seq_r ?_
    obtain rfl := Option.some.inj h
    refine KB.ret (vs := [(.bool false)]) (res_tmp rfl res_nil) ?_
    exact rfl
  · refine WC.condF rfl hc31 ?_
    refine WC.skip ?_
    refine KX.seq_n ?_
    refine WC.seqR ?_
    obtain ⟨y4, hy4, h⟩ := bindS h
    refine WO.callN rfl rfl rfl H (s11 _ hy4 _) ?_
    intro i3 S hi3 H
    refine WO.step (v := (.ptr i3 0)) rfl rfl ?_
    refine WO.nil ?_
    refine WC.seqR ?_
    refine WO.step (v := (.int .u16 a1)) rfl rfl ?_
    refine WO.step (v := (.int .i64 (cv .i64 a1))) rfl rfl ?_
    obtain ⟨z5, hz5, h⟩ := bindS h
    refine WO.step (v := (.int .i64 z5)) rfl (stp_rem rfl rfl hz5) ?_
    refine WO.step (v := (.int .i64 (ad .i64 z5 10))) rfl rfl ?_
    refine WO.step (v := (.int .i64 (ad .i64 z5 10))) rfl rfl ?_
    refine WO.nil ?_
    refine WC.seq ?_
    refine WC.draw ?_
    refine WH.step (v := (.int .i64 (ad .i64 z5 10))) rfl rfl rfl rfl ?_
    obtain ⟨z6, hz6, h⟩ := bindS h
    refine WH.step (v := (.int .i64 z6)) rfl (stp_shr rfl rfl hz6) rfl rfl ?_
    refine WH.step (v := (.int .u8 (cv .u8 z6))) rfl rfl rfl rfl ?_
    refine WH.step (v := (.int .i64 (ad .i64 z5 10))) rfl rfl rfl rfl ?_
    refine WH.step (v := (.int .u8 (cv .u8 (ad .i64 z5 10)))) rfl rfl rfl rfl ?_
    refine WH.step rfl (stp_buildSlice (ys := [cv .u8 z6, cv .u8 (ad .i64 z5 10)]) (f := (eI .u8)) (parts := [(0, (.int .u8 (cv .u8 z6))), (1, (.int .u8 (cv .u8 (ad .i64 z5 10))))]) rfl rfl rfl rfl rfl rfl (fc ⟨rfl, rfl⟩ (fc ⟨rfl, rfl⟩ (fun p hp => nomatch hp))) rfl) rfl rfl ?_
    have hv7 : IsSl (eI .u8) (some [cv .u8 z6, cv .u8 (ad .i64 z5 10)]) _ := ⟨.full, rfl⟩
    refine WH.step (v := (.str (Str.of (some [cv .u8 z6, cv .u8 (ad .i64 z5 10)])))) rfl (stp_text rfl hv7 rfl rfl rfl) rfl rfl ?_
    obtain ⟨z8, hz8, h⟩ := bindS h
    refine WH.step (v := (.str z8)) rfl (stp_strApp rfl rfl hz8) rfl rfl ?_
    refine WH.step (v := (.int .i64 (ad .i64 z5 10))) rfl rfl rfl rfl ?_
    obtain ⟨z9, hz9, h⟩ := bindS h
    refine WH.ex1 rfl (stp_make' (f := (eI .u8)) (z := 0) (ei := ty5) rfl rfl rfl rfl rfl rfl (fun _ => rfl) hz9 H) ?_
    rintro v10 ⟨hv10, H⟩
    replace H : Hp [] [] _ [(i3, [(.str y4.s_)])] [(v10, 1)] := H
    refine WH.step (v := (.str (Str.of z9))) rfl (stp_text rfl hv10 rfl rfl rfl) rfl rfl ?_
    refine WH.nil ?_
    obtain ⟨z11, hz11, h⟩ := bindS h
    refine WO.step (v := (.str z11)) rfl (stp_strApp rfl rfl hz11) ?_
    refine WO.step (v := (.str z11)) rfl rfl ?_
    refine WO.nil ?_
    refine KX.seq_n ?_
    refine WC.seq ?_
    refine WC.seqR ?_
    refine WO.step (v := (.ptr i3 0)) rfl rfl ?_
    refine WO.step (v := (.str z11)) rfl rfl ?_
    obtain ⟨y12, hy12, h⟩ := bindS h
    refine WO.callR 0 rfl rfl rfl H rfl (s12 _ hy12 (H.get 0 rfl)) ?_
    intro S H
    replace H : Hp [] [] _ [(i3, [(.str y12.1.s_)])] [(v10, 1)] := H
    refine WO.step (v := (.bool (y12.2 != 0))) rfl rfl ?_
    refine WO.nil ?_
    rcases iteS h with ⟨hc30, h⟩ | ⟨hc30, h⟩
    · refine WC.condT rfl hc30 ?_
      refine WC.seqR ?_
      refine WO.step (v := (.bool false)) rfl rfl ?_
      refine WO.nil ?_
      refine WC.ret ?_
      refine KX.seq_r ?_
      obtain rfl := Option.some.inj h
      refine KB.ret (vs := [(.bool false)]) (res_tmp rfl res_nil) ?_
      exact rfl
    · refine WC.condF rfl hc30 ?_
      refine WC.skip ?_
      refine KX.seq_n ?_
      refine WC.seqR ?_
      refine WO.step (v := (.str z11)) rfl rfl ?_
      refine WO.step (v := (.int .i64 (Str.len z11))) rfl rfl ?_
      refine WO.step (v := (.int .i64 (sb .i64 16000 (Str.len z11)))) rfl rfl ?_
      refine WO.step (v := (.int .i64 (sb .i64 16000 (Str.len z11)))) rfl rfl ?_
      refine WO.nil ?_
      refine WC.seqR ?_
      refine WO.step (v := (.int .u8 a0)) rfl rfl ?_
      obtain ⟨z14, hz14, h⟩ := bindS h
      refine WO.step (v := (.int .u8 z14)) rfl (stp_rem rfl rfl hz14) ?_
      refine WO.step (v := (.int .i64 (cv .i64 z14))) rfl rfl ?_
      refine WO.step (v := (.int .i64 (cv .i64 z14))) rfl rfl ?_
      refine WO.nil ?_
      refine WC.seqR ?_
      refine WO.step (v := (.ptr i3 0)) rfl rfl ?_
      refine WO.step (v := (.int .i64 (sb .i64 16000 (Str.len z11)))) rfl rfl ?_
      refine WO.step (v := (.int .i64 (sb .i64 (sb .i64 16000 (Str.len z11)) 1))) rfl rfl ?_
      refine WO.step (v := (.int .i64 (cv .i64 z14))) rfl rfl ?_
      refine WO.step (v := (.int .i64 (ad .i64 (sb .i64 (sb .i64 16000 (Str.len z11)) 1) (cv .i64 z14)))) rfl rfl ?_
      obtain ⟨z15, hz15, h⟩ := bindS h
      refine WO.ex1 rfl (stp_make' (f := (eI .u8)) (z := 0) (ei := ty5) rfl rfl rfl rfl rfl rfl (fun _ => rfl) hz15 H) ?_
      rintro v16 ⟨hv16, H⟩
      replace H : Hp [] [] _ [(i3, [(.str y12.1.s_)])] [(v16, 1), (v10, 1)] := H
      refine WO.step (v := (.str (Str.of z15))) rfl (stp_text rfl hv16 rfl rfl rfl) ?_
      obtain ⟨y17, hy17, h⟩ := bindS h
      refine WO.callR 0 rfl rfl rfl H rfl (s12 _ hy17 (H.get 0 rfl)) ?_
      intro S H
      replace H : Hp [] [] _ [(i3, [(.str y17.1.s_)])] [(v16, 1), (v10, 1)] := H
      refine WO.step (v := (.int .i64 y17.2)) rfl rfl ?_
      refine WO.nil ?_
      refine WC.seqR ?_
      refine WO.step (v := (.int .i64 0)) rfl rfl ?_
      refine WO.nil ?_
      refine WC.seq ?_
      refine WC.seqR ?_
      refine WO.step (v := (.int .i64 (cv .i64 z14))) rfl rfl ?_
      refine WO.step (v := (.bool ((cv .i64 z14) == 2))) rfl rfl ?_
      refine WO.nil ?_
      obtain ⟨y20, hy20, hOy20⟩ := bindS h
      refine WC.join (fun σ' S' e' => Known ([(5, (.ptr i3 0)), (7, (.str z11)), (8, (.int .i64 (sb .i64 16000 (Str.len z11)))), (9, (.int .i64 (cv .i64 z14))), (10, (.int .i64 y17.2)), (11, (.int .i64 y20))]) σ' ∧ Hp [] [] S' [(i3, [(.str y17.1.s_)])] [(v16, 1), (v10, 1)] ∧ e' = false) ?_ ?_
      · replace h := hy20
        rcases iteS h with ⟨hc21, h⟩ | ⟨hc21, h⟩
        · refine WC.condT rfl hc21 ?_
          refine WC.region ?_
          refine WO.step (v := (.int .i64 13)) rfl rfl ?_
          refine WO.nil ?_
          refine KX.seq_n ?_
          obtain rfl := Option.some.inj h
          exact ⟨(known_cons rfl (known_cons rfl (known_cons rfl (known_cons rfl (known_cons rfl (known_cons rfl known_nil)))))), (H.sub (.cons_cons _ .slnil) (.cons_cons _ (.cons_cons _ .slnil))), rfl⟩
        · refine WC.condF rfl hc21 ?_
          refine WC.skip ?_
          refine KX.seq_n ?_
          obtain rfl := Option.some.inj h
          exact ⟨(known_cons rfl (known_cons rfl (known_cons rfl (known_cons rfl (known_cons rfl (known_cons rfl known_nil)))))), (H.sub (.cons_cons _ .slnil) (.cons_cons _ (.cons_cons _ .slnil))), rfl⟩
      · rintro σ S e ⟨hk, H, rfl⟩
        replace h := hOy20
        refine KX.of_known hk ?_
        refine KX.seq_n ?_
        refine WC.seqR ?_
        refine WO.step (v := (.ptr i3 0)) rfl rfl ?_
        obtain ⟨y22, hy22, h⟩ := bindS h
        refine WO.callR 0 rfl rfl rfl H rfl (s13 _ hy22 (H.get 0 rfl)) ?_
        intro S H
        replace H : Hp [] [] _ [(i3, [(.str y22.1.s_)])] [(v16, 1), (v10, 1)] := H
        refine WO.step (v := (.tup [(.str y22.2.1), (.int .i64 y22.2.2)])) rfl rfl ?_
        refine WO.step (v := (.str y22.2.1)) rfl rfl ?_
        refine WO.step (v := (.int .i64 y22.2.2)) rfl rfl ?_
        refine WO.step (v := (.str y22.2.1)) rfl rfl ?_
        refine WO.step (v := (.int .i64 y22.2.2)) rfl rfl ?_
        refine WO.nil ?_
        refine WC.seqR ?_
        refine WO.step (v := (.ptr i3 0)) rfl rfl ?_
        refine WO.step (v := (.str z11)) rfl rfl ?_
        obtain ⟨y23, hy23, h⟩ := bindS h
        refine WO.callR 0 rfl rfl rfl H rfl (s12 _ hy23 (H.get 0 rfl)) ?_
        intro S H
        replace H : Hp [] [] _ [(i3, [(.str y23.1.s_)])] [(v16, 1), (v10, 1)] := H
        refine WO.step (v := (.int .i64 y23.2)) rfl rfl ?_
        refine WO.nil ?_
        refine WC.seqR ?_
        refine WO.step (v := (.int .i64 y17.2)) rfl rfl ?_
        refine WO.step (v := (.int .i64 y20)) rfl rfl ?_
        refine WO.step (v := (.bool (y17.2 == y20))) rfl rfl ?_
        refine WO.step (v := (.bool (y17.2 == y20))) rfl rfl ?_
        refine WO.split 3 (fun σ' S' e' => Known ([(7, (.str z11)), (8, (.int .i64 (sb .i64 16000 (Str.len z11)))), (9, (.int .i64 (cv .i64 z14))), (12, (.str y22.2.1)), (14, (.int .i64 y23.2)), (68, (.bool ((y17.2 == y20) && (y22.2.2 == 0))))]) σ' ∧ Hp [] [] S' [(i3, [(.str y23.1.s_)])] [(v16, 1), (v10, 1)] ∧ e' = false) ?_ ?_
        · cases hc24 : (y17.2 == y20)
          · skip
            refine WO.by rfl rfl rfl ?_
            refine WO.by rfl rfl rfl ?_
            refine WO.step (v := (.bool false)) rfl rfl ?_
            refine WO.nil ?_
            exact ⟨(known_cons rfl (known_cons rfl (known_cons rfl (known_cons rfl (known_cons rfl (known_cons rfl known_nil)))))), H, rfl⟩
          · skip
            refine WO.go0 rfl rfl ?_
            refine WO.step (v := (.int .i64 y22.2.2)) rfl rfl ?_
            refine WO.go0 rfl rfl ?_
            refine WO.step (v := (.bool (y22.2.2 == 0))) rfl rfl ?_
            refine WO.step (v := (.bool (y22.2.2 == 0))) rfl rfl ?_
            refine WO.nil ?_
            exact ⟨(known_cons rfl (known_cons rfl (known_cons rfl (known_cons rfl (known_cons rfl (known_cons rfl known_nil)))))), H, rfl⟩
        · rintro σ S e ⟨hk, H, rfl⟩
          refine WO.of_known hk ?_
          refine WO.step (v := (.bool ((y17.2 == y20) && (y22.2.2 == 0)))) rfl rfl ?_
          refine WO.split 4 (fun σ' S' e' => Known ([(7, (.str z11)), (8, (.int .i64 (sb .i64 16000 (Str.len z11)))), (9, (.int .i64 (cv .i64 z14))), (14, (.int .i64 y23.2)), (73, (.bool (((y17.2 == y20) && (y22.2.2 == 0)) && (y22.2.1 == z11))))]) σ' ∧ Hp [] [] S' [(i3, [(.str y23.1.s_)])] [(v16, 1), (v10, 1)] ∧ e' = false) ?_ ?_
          · cases hc25 : ((y17.2 == y20) && (y22.2.2 == 0))
            · skip
              refine WO.by rfl rfl rfl ?_
              refine WO.by rfl rfl rfl ?_
              refine WO.by rfl rfl rfl ?_
              refine WO.step (v := (.bool false)) rfl rfl ?_
              refine WO.nil ?_
              exact ⟨(known_cons rfl (known_cons rfl (known_cons rfl (known_cons rfl (known_cons rfl known_nil))))), H, rfl⟩
            · skip
              refine WO.go0 rfl rfl ?_
              refine WO.step (v := (.str y22.2.1)) rfl rfl ?_
              refine WO.go0 rfl rfl ?_
              refine WO.step (v := (.str z11)) rfl rfl ?_
              refine WO.go0 rfl rfl ?_
              refine WO.step (v := (.bool (y22.2.1 == z11))) rfl rfl ?_
              refine WO.step (v := (.bool (y22.2.1 == z11))) rfl rfl ?_
              refine WO.nil ?_
              exact ⟨(known_cons rfl (known_cons rfl (known_cons rfl (known_cons rfl (known_cons rfl known_nil))))), H, rfl⟩
          · rintro σ S e ⟨hk, H, rfl⟩
            refine WO.of_known hk ?_
            refine WO.step (v := (.bool (((y17.2 == y20) && (y22.2.2 == 0)) && (y22.2.1 == z11)))) rfl rfl ?_
            refine WO.split 16 (fun σ' S' e' => Known ([(90, (.bool ((((y17.2 == y20) && (y22.2.2 == 0)) && (y22.2.1 == z11)) && ((y23.2 == 0) == (((cv .i64 z14) == 2) || (decide ((Str.len z11) ≤ (sb .i64 16000 (ad .i64 (sb .i64 (sb .i64 16000 (Str.len z11)) 1) (cv .i64 z14))))))))))]) σ' ∧ Hp [] [] S' [(i3, [(.str y23.1.s_)])] [(v16, 1), (v10, 1)] ∧ e' = false) ?_ ?_
            · cases hc28 : (((y17.2 == y20) && (y22.2.2 == 0)) && (y22.2.1 == z11))
              · skip
                refine WO.by rfl rfl rfl ?_
                refine WO.by rfl rfl rfl ?_
                refine WO.by rfl rfl rfl ?_
                refine WO.by rfl rfl rfl ?_
                refine WO.by rfl rfl rfl ?_
                refine WO.by0 rfl rfl ?_
                refine WO.by0 rfl rfl ?_
                refine WO.by0 rfl rfl ?_
                refine WO.by0 rfl rfl ?_
                refine WO.by0 rfl rfl ?_
                refine WO.by0 rfl rfl ?_
                refine WO.by0 rfl rfl ?_
                refine WO.by0 rfl rfl ?_
                refine WO.by rfl rfl rfl ?_
                refine WO.by rfl rfl rfl ?_
                refine WO.step (v := (.bool false)) rfl rfl ?_
                refine WO.nil ?_
                exact ⟨(known_cons rfl known_nil), H, rfl⟩
              · skip
                refine WO.go0 rfl rfl ?_
                refine WO.step (v := (.int .i64 y23.2)) rfl rfl ?_
                refine WO.go0 rfl rfl ?_
                refine WO.step (v := (.bool (y23.2 == 0))) rfl rfl ?_
                refine WO.go0 rfl rfl ?_
                refine WO.step (v := (.int .i64 (cv .i64 z14))) rfl rfl ?_
                refine WO.go0 rfl rfl ?_
                refine WO.step (v := (.bool ((cv .i64 z14) == 2))) rfl rfl ?_
                refine WO.go0 rfl rfl ?_
                refine WO.step (v := (.bool ((cv .i64 z14) == 2))) rfl rfl ?_
                refine WO.split 9 (fun σ' S' e' => Known ([(74, (.bool true)), (76, (.bool (y23.2 == 0))), (88, (.bool (((cv .i64 z14) == 2) || (decide ((Str.len z11) ≤ (sb .i64 16000 (ad .i64 (sb .i64 (sb .i64 16000 (Str.len z11)) 1) (cv .i64 z14))))))))]) σ' ∧ Hp [] [] S' [(i3, [(.str y23.1.s_)])] [(v16, 1), (v10, 1)] ∧ e' = false) ?_ ?_
                · cases hc29 : ((cv .i64 z14) == 2)
                  · skip
                    refine WO.go0 rfl rfl ?_
                    refine WO.step (v := (.str z11)) rfl rfl ?_
                    refine WO.go0 rfl rfl ?_
                    refine WO.step (v := (.int .i64 (Str.len z11))) rfl rfl ?_
                    refine WO.go0 rfl rfl ?_
                    refine WO.step (v := (.int .i64 (sb .i64 16000 (Str.len z11)))) rfl rfl ?_
                    refine WO.go0 rfl rfl ?_
                    refine WO.step (v := (.int .i64 (sb .i64 (sb .i64 16000 (Str.len z11)) 1))) rfl rfl ?_
                    refine WO.go0 rfl rfl ?_
                    refine WO.step (v := (.int .i64 (cv .i64 z14))) rfl rfl ?_
                    refine WO.go0 rfl rfl ?_
                    refine WO.step (v := (.int .i64 (ad .i64 (sb .i64 (sb .i64 16000 (Str.len z11)) 1) (cv .i64 z14)))) rfl rfl ?_
                    refine WO.go0 rfl rfl ?_
                    refine WO.step (v := (.int .i64 (sb .i64 16000 (ad .i64 (sb .i64 (sb .i64 16000 (Str.len z11)) 1) (cv .i64 z14))))) rfl rfl ?_
                    refine WO.go0 rfl rfl ?_
                    refine WO.step (v := (.bool (decide ((Str.len z11) ≤ (sb .i64 16000 (ad .i64 (sb .i64 (sb .i64 16000 (Str.len z11)) 1) (cv .i64 z14))))))) rfl rfl ?_
                    refine WO.go0 rfl rfl ?_
                    refine WO.step (v := (.bool (decide ((Str.len z11) ≤ (sb .i64 16000 (ad .i64 (sb .i64 (sb .i64 16000 (Str.len z11)) 1) (cv .i64 z14))))))) rfl rfl ?_
                    refine WO.nil ?_
                    exact ⟨(known_cons rfl (known_cons rfl (known_cons rfl known_nil))), H, rfl⟩
                  · skip
                    refine WO.by rfl rfl rfl ?_
                    refine WO.by rfl rfl rfl ?_
                    refine WO.by rfl rfl rfl ?_
                    refine WO.by rfl rfl rfl ?_
                    refine WO.by rfl rfl rfl ?_
                    refine WO.by rfl rfl rfl ?_
                    refine WO.by rfl rfl rfl ?_
                    refine WO.by rfl rfl rfl ?_
                    refine WO.go0 rfl rfl ?_
                    refine WO.step (v := (.bool true)) rfl rfl ?_
                    refine WO.nil ?_
                    exact ⟨(known_cons rfl (known_cons rfl (known_cons rfl known_nil))), H, rfl⟩
                · rintro σ S e ⟨hk, H, rfl⟩
                  refine WO.of_known hk ?_
                  refine WO.go0 rfl rfl ?_
                  refine WO.step (v := (.bool ((y23.2 == 0) == (((cv .i64 z14) == 2) || (decide ((Str.len z11) ≤ (sb .i64 16000 (ad .i64 (sb .i64 (sb .i64 16000 (Str.len z11)) 1) (cv .i64 z14))))))))) rfl rfl ?_
                  refine WO.step (v := (.bool ((y23.2 == 0) == (((cv .i64 z14) == 2) || (decide ((Str.len z11) ≤ (sb .i64 16000 (ad .i64 (sb .i64 (sb .i64 16000 (Str.len z11)) 1) (cv .i64 z14))))))))) rfl rfl ?_
                  refine WO.nil ?_
                  exact ⟨(known_cons rfl known_nil), H, rfl⟩
            · rintro σ S e ⟨hk, H, rfl⟩
              refine WO.of_known hk ?_
              refine WO.step (v := (.bool ((((y17.2 == y20) && (y22.2.2 == 0)) && (y22.2.1 == z11)) && ((y23.2 == 0) == (((cv .i64 z14) == 2) || (decide ((Str.len z11) ≤ (sb .i64 16000 (ad .i64 (sb .i64 (sb .i64 16000 (Str.len z11)) 1) (cv .i64 z14)))))))))) rfl rfl ?_
              refine WO.nil ?_
              refine WC.ret ?_
              obtain rfl := Option.some.inj h
              refine KB.ret (vs := [(.bool ((((y17.2 == y20) && (y22.2.2 == 0)) && (y22.2.1 == z11)) && ((y23.2 == 0) == (((cv .i64 z14) == 2) || (decide ((Str.len z11) ≤ (sb .i64 16000 (ad .i64 (sb .i64 (sb .i64 16000 (Str.len z11)) 1) (cv .i64 z14)))))))))]) (res_tmp rfl res_nil) ?_
              exact rfl
-- 15 (*prefect/frame.Cutter).Copy
/-- (*prefect/frame.Cutter).Copy -/
def F15 (k : Nat) (a0 : Frame_Cutter) : Option (Frame_Cutter × Frame_Cutter) :=
  some (a0, a0)
theorem s15 : ∀ k : Nat, ∀ {a0 : Frame_Cutter} {r : Frame_Cutter × Frame_Cutter}, F15 k a0 = some r → ∀ {id : Nat} {S : List SObj}, S[id]? = some (.cells [(.str a0.s_)]) → ∃ i S', evw env 15 [.ptr id 0] S = some (.ptr i 0, S', false) ∧ Hp S [id] S' [(i, [(.str r.2.s_)]), (id, [(.str r.1.s_)])] [] := by
  intro k a0 r h id S0 hS
  unfold F15 at h
  refine evw_newR (pf := fn15) rfl rfl (Nat.le_of_ble_eq_true rfl) rfl ?_
  refine WB.of (pf := fn15) rfl ?_
  have H := Hp.start1 hS
  refine WC.seqR ?_
  refine WO.step (v := .nilp) rfl rfl ?_
  refine WO.nil ?_
  refine WC.seqR ?_
  refine WO.step (v := (.ptr id 0)) rfl rfl ?_
  refine WO.step (v := (.ptr id 0)) rfl rfl ?_
  refine WO.step (v := (.ptr id 0)) rfl rfl ?_
  refine WO.step (v := (.str a0.s_)) rfl (stp_load rfl (H.get 0 rfl) rfl) ?_
  refine WO.step (v := (.agg [(.str a0.s_)])) rfl (stp_build (ti := ty68) rfl rfl rfl rfl rfl (fill_cons rfl rfl rfl rfl (Nat.le_of_ble_eq_true rfl) rfl rfl)) ?_
  refine WO.box' rfl rfl rfl rfl H ?_
  intro i1 S hi1 H
  refine WO.step (v := (.ptr i1 0)) rfl rfl ?_
  refine WO.nil ?_
  refine WC.ret ?_
  obtain rfl := Option.some.inj h
  refine KB.ret (vs := [(.ptr i1 0)]) (res_tmp rfl res_nil) ?_
  exact ⟨_, rfl, rfl, H.sub (.cons_cons _ (.cons_cons _ .slnil)) .slnil⟩
-- 16 (*prefect/prefectref1.Cutter).Feed
/-- (*prefect/prefectref1.Cutter).Feed -/
def F16 (k : Nat) (a0 : Prefectref1_Cutter) (a1 : Str) : Option (Prefectref1_Cutter × Int) :=
  if decide ((ad .i64 (Str.len a0.B) (Str.len a1)) > 16000) then
  some (a0, 13)
  else
  Option.bind (Str.app? a0.B a1) fun z2 =>
  some ((Prefectref1_Cutter.mk z2), 0)
theorem s16 : ∀ k : Nat, ∀ {a0 : Prefectref1_Cutter} {a1 : Str} {r : Prefectref1_Cutter × Int}, F16 k a0 a1 = some r → ∀ {id : Nat} {S : List SObj}, S[id]? = some (.cells [(.str a0.B)]) → evw env 16 [.ptr id 0, (.str a1)] S = some ((.int .i64 r.2), S.set id (.cells [(.str r.1.B)]), false) := by
  intro k a0 a1 r h id S0 hS
  unfold F16 at h
  refine evw_recvW (pf := fn16) rfl rfl (Nat.le_of_ble_eq_true rfl) rfl ?_
  refine WB.of (pf := fn16) rfl ?_
  have H := Hp.start1 hS
  refine WC.seqR ?_
  refine WO.step (v := (.int .i64 0)) rfl rfl ?_
  refine WO.nil ?_
  refine WC.seq ?_
  refine WC.seqR ?_
  refine WO.step (v := (.ptr id 0)) rfl rfl ?_
  refine WO.step (v := (.ptr id 0)) rfl rfl ?_
  refine WO.step (v := (.ptr id 0)) rfl rfl ?_
  refine WO.step (v := (.str a0.B)) rfl (stp_load rfl (H.get 0 rfl) rfl) ?_
  refine WO.step (v := (.int .i64 (Str.len a0.B))) rfl rfl ?_
  refine WO.step (v := (.str a1)) rfl rfl ?_
  refine WO.step (v := (.int .i64 (Str.len a1))) rfl rfl ?_
  refine WO.step (v := (.int .i64 (ad .i64 (Str.len a0.B) (Str.len a1)))) rfl rfl ?_
  refine WO.step (v := (.bool (decide ((ad .i64 (Str.len a0.B) (Str.len a1)) > 16000)))) rfl rfl ?_
  refine WO.nil ?_
  rcases iteS h with ⟨hc3, h⟩ | ⟨hc3, h⟩
  · refine WC.condT rfl hc3 ?_
    refine WC.seqR ?_
    refine WO.step (v := (.int .i64 13)) rfl rfl ?_
    refine WO.nil ?_
    refine WC.ret ?_
    refine KX.seq_r ?_
    obtain rfl := Option.some.inj h
    refine KB.ret (vs := [(.int .i64 13)]) (res_tmp rfl res_nil) ?_
    exact leave_hp hS H 0 rfl rfl rfl
  · refine WC.condF rfl hc3 ?_
    refine WC.skip ?_
    refine KX.seq_n ?_
    refine WC.seqR ?_
    refine WO.step (v := (.ptr id 0)) rfl rfl ?_
    refine WO.step (v := (.ptr id 0)) rfl rfl ?_
    refine WO.step (v := (.ptr id 0)) rfl rfl ?_
    refine WO.step (v := (.ptr id 0)) rfl rfl ?_
    refine WO.step (v := (.str a0.B)) rfl (stp_load rfl (H.get 0 rfl) rfl) ?_
    refine WO.step (v := (.str a1)) rfl rfl ?_
    obtain ⟨z2, hz2, h⟩ := bindS h
    refine WO.step (v := (.str z2)) rfl (stp_strApp rfl rfl hz2) ?_
    refine WO.step (v := (.ptr id 0)) rfl rfl ?_
    refine WO.step (v := (.ptr id 0)) rfl rfl ?_
    refine WO.store 0 rfl H rfl rfl rfl rfl rfl rfl rfl (Nat.le_of_ble_eq_true rfl) rfl (clean_e rfl) ?_
    intro S H
    replace H : Hp S0 [id] _ [(id, [(.str z2)])] [] := H
    refine WO.nil ?_
    refine WC.seqR ?_
    refine WO.step (v := (.int .i64 0)) rfl rfl ?_
    refine WO.nil ?_
    refine WC.ret ?_
    obtain rfl := Option.some.inj h
    refine KB.ret (vs := [(.int .i64 0)]) (res_tmp rfl res_nil) ?_
    exact leave_hp hS H 0 rfl rfl rfl
-- 43 prefect/prefectref1.Head
def F43_L0 (k : Nat) (a27 : Str) (a28 : Int) : Nat → Int → Int → Option (Int × Int)
  | 0, _, _ => none
  | n + 1, x29, x30 =>
    if decide (x30 < a28) then
    Option.bind (Str.at? a27 (ad .i64 2 x30)) fun c33 =>
    F43_L0 k a27 a28 n (ad .i64 (ml .i64 256 x29) (cv .i64 c33)) (ad .i64 x30 1)
    else
    some (x29, x30)
/-- prefect/prefectref1.Head -/
def F43 (k : Nat) (a0 : Str) : Option (Int × Int × Int) :=
  if (Str.len a0) == 0 then
  some (0, 0, 10)
  else
  Option.bind (Str.at? a0 0) fun c2 =>
  if (bAnd .u8 c2 31) == 31 then
  some (0, 0, 14)
  else
  if (Str.len a0) == 1 then
  some (0, 0, 10)
  else
  Option.bind (Str.at? a0 1) fun c5 =>
  if decide (c5 < 128) then
  Option.bind (Str.at? a0 1) fun c8 =>
  some (2, cv .i64 c8, 0)
  else
  Option.bind (Str.at? a0 1) fun c9 =>
  if (decide ((sb .i64 (cv .i64 c9) 128) < 1)) || (decide ((sb .i64 (cv .i64 c9) 128) > 4)) then
  some (0, 0, 11)
  else
  if decide ((Str.len a0) < (ad .i64 2 (sb .i64 (cv .i64 c9) 128))) then
  some (0, 0, 10)
  else
  Option.bind (F43_L0 k a0 (sb .i64 (cv .i64 c9) 128) k 0 0) fun y35 =>
  if decide (y35.1 > 4000) then
  some (0, 0, 13)
  else
  some (ad .i64 2 (sb .i64 (cv .i64 c9) 128), y35.1, 0)
theorem l43_L0 {k : Nat} {a27 : Str} {a28 : Int} {S0 : List SObj} {R : List Nat} {K : KX}  {o : (Int × Int)}
    (hbrk : ∀ {σ' : Nat → PV} {S' : List SObj}, Known [(5, (.int .i64 a28)), (6, (.int .i64 o.1)), (7, (.int .i64 o.2))] σ' → Hp S0 R S' [] [] → K (.exit 0) σ' S' false) :
    ∀ {n : Nat} {x29 : Int} {x30 : Int}, F43_L0 k a27 a28 n x29 x30 = some o → ∀ {σ : Nat → PV} {S : List SObj}, Known [(0, (.str a27)), (5, (.int .i64 a28)), (6, (.int .i64 x29)), (7, (.int .i64 x30))] σ → Hp S0 R S [] [] → WC env ⟨57, S0.length⟩ (.loop pc43L0) σ S false K := by
  intro n
  induction n with
  | zero => intro _ _ h; cases h
  | succ n ih =>
    intro x29 x30 h σ S  hk H
    rw [F43_L0] at h
    refine WC.loop ?_
    refine WC.of_known hk ?_
    refine WC.seq ?_
    refine WC.seqR ?_
    refine WO.step (v := (.int .i64 x30)) rfl rfl ?_
    refine WO.step (v := (.int .i64 a28)) rfl rfl ?_
    refine WO.step (v := (.bool (decide (x30 < a28)))) rfl rfl ?_
    refine WO.nil ?_
    rcases iteS h with ⟨hc34, h⟩ | ⟨hc34, h⟩
    · refine WC.condT rfl hc34 ?_
      refine WC.skip ?_
      refine KX.seq_n ?_
      refine WC.seq ?_
      refine WC.block ?_
      refine WC.region ?_
      refine WO.step (v := (.int .i64 x29)) rfl rfl ?_
      refine WO.step (v := (.int .i64 (ml .i64 256 x29))) rfl rfl ?_
      refine WO.step (v := (.str a27)) rfl rfl ?_
      refine WO.step (v := (.int .i64 x30)) rfl rfl ?_
      refine WO.step (v := (.int .i64 (ad .i64 2 x30))) rfl rfl ?_
      obtain ⟨c33, hc33, h⟩ := bindS h
      refine WO.step (v := (.int .u8 c33)) rfl (stp_idxStr rfl rfl rfl hc33) ?_
      refine WO.step (v := (.int .i64 (cv .i64 c33))) rfl rfl ?_
      refine WO.step (v := (.int .i64 (ad .i64 (ml .i64 256 x29) (cv .i64 c33)))) rfl rfl ?_
      refine WO.step (v := (.int .i64 (ad .i64 (ml .i64 256 x29) (cv .i64 c33)))) rfl rfl ?_
      refine WO.nil ?_
      refine KX.block_n ?_
      refine KX.seq_n ?_
      refine WC.region ?_
      refine WO.step (v := (.int .i64 x30)) rfl rfl ?_
      refine WO.step (v := (.int .i64 (ad .i64 x30 1))) rfl rfl ?_
      refine WO.step (v := (.int .i64 (ad .i64 x30 1))) rfl rfl ?_
      refine WO.nil ?_
      refine KX.seq_n ?_
      exact ih h  (known_cons rfl (known_cons rfl (known_cons rfl (known_cons rfl known_nil)))) (H.sub .slnil .slnil)
    · refine WC.condF rfl hc34 ?_
      refine WC.exit ?_
      refine KX.seq_x ?_
      refine KX.seq_x ?_
      obtain rfl := Option.some.inj h
      exact hbrk  (known_cons rfl (known_cons rfl (known_cons rfl known_nil))) (H.sub .slnil .slnil)
theorem s43 : ∀ k : Nat, ∀ {a0 : Str} {r : Int × Int × Int}, F43 k a0 = some r → ∀ {vs : List PV}, vs.map PV.strip = [(.str a0)] → ∀ S : List SObj, evw env 43 vs S = some ((.tup [(.int .i64 r.1), (.int .i64 r.2.1), (.int .i64 r.2.2)]), S, false) := by
  intro k a0 r h vs ha S
  unfold F43 at h
  refine evw_pureW (pf := fn43) rfl rfl ha (Nat.le_of_ble_eq_true rfl) rfl rfl ?_
  refine WB.of (pf := fn43) rfl ?_
  have H := Hp.start []
  refine WC.seqR ?_
  refine WO.step (v := (.int .i64 0)) rfl rfl ?_
  refine WO.step (v := (.int .i64 0)) rfl rfl ?_
  refine WO.step (v := (.int .i64 0)) rfl rfl ?_
  refine WO.nil ?_
  refine WC.seq ?_
  refine WC.seqR ?_
  refine WO.step (v := (.str a0)) rfl rfl ?_
  refine WO.step (v := (.int .i64 (Str.len a0))) rfl rfl ?_
  refine WO.step (v := (.bool ((Str.len a0) == 0))) rfl rfl ?_
  refine WO.nil ?_
  rcases iteS h with ⟨hc43, h⟩ | ⟨hc43, h⟩
  · refine WC.condT rfl hc43 ?_
    refine WC.seqR ?_
    refine WO.step (v := (.int .i64 0)) rfl rfl ?_
    refine WO.step (v := (.int .i64 0)) rfl rfl ?_
    refine WO.step (v := (.int .i64 10)) rfl rfl ?_
    refine WO.nil ?_
    refine WC.ret ?_
    refine KX.seq_r ?_
    obtain rfl := Option.some.inj h
    refine KB.ret (vs := [(.int .i64 0), (.int .i64 0), (.int .i64 10)]) (res_tmp rfl (res_tmp rfl (res_tmp rfl res_nil))) ?_
    exact rfl
  · refine WC.condF rfl hc43 ?_
    refine WC.skip ?_
    refine KX.seq_n ?_
    refine WC.seq ?_
    refine WC.seqR ?_
    refine WO.step (v := (.str a0)) rfl rfl ?_
    obtain ⟨c2, hc2, h⟩ := bindS h
    refine WO.step (v := (.int .u8 c2)) rfl (stp_idxStr rfl rfl rfl hc2) ?_
    refine WO.step (v := (.int .u8 (bAnd .u8 c2 31))) rfl rfl ?_
    refine WO.step (v := (.bool ((bAnd .u8 c2 31) == 31))) rfl rfl ?_
    refine WO.nil ?_
    rcases iteS h with ⟨hc42, h⟩ | ⟨hc42, h⟩
    · refine WC.condT rfl hc42 ?_
      refine WC.seqR ?_
      refine WO.step (v := (.int .i64 0)) rfl rfl ?_
      refine WO.step (v := (.int .i64 0)) rfl rfl ?_
      refine WO.step (v := (.int .i64 14)) rfl rfl ?_
      refine WO.nil ?_
      refine WC.ret ?_
      refine KX.seq_r ?_
      obtain rfl := Option.some.inj h
      refine KB.ret (vs := [(.int .i64 0), (.int .i64 0), (.int .i64 14)]) (res_tmp rfl (res_tmp rfl (res_tmp rfl res_nil))) ?_
      exact rfl
    · refine WC.condF rfl hc42 ?_
      refine WC.skip ?_
      refine KX.seq_n ?_
      refine WC.seq ?_
      refine WC.seqR ?_
      refine WO.step (v := (.str a0)) rfl rfl ?_
      refine WO.step (v := (.int .i64 (Str.len a0))) rfl rfl ?_
      refine WO.step (v := (.bool ((Str.len a0) == 1))) rfl rfl ?_
      refine WO.nil ?_
      rcases iteS h with ⟨hc41, h⟩ | ⟨hc41, h⟩
      · refine WC.condT rfl hc41 ?_
        refine WC.seqR ?_
        refine WO.step (v := (.int .i64 0)) rfl rfl ?_
        refine WO.step (v := (.int .i64 0)) rfl rfl ?_
        refine WO.step (v := (.int .i64 10)) rfl rfl ?_
        refine WO.nil ?_
        refine WC.ret ?_
        refine KX.seq_r ?_
        obtain rfl := Option.some.inj h
        refine KB.ret (vs := [(.int .i64 0), (.int .i64 0), (.int .i64 10)]) (res_tmp rfl (res_tmp rfl (res_tmp rfl res_nil))) ?_
        exact rfl
      · refine WC.condF rfl hc41 ?_
        refine WC.skip ?_
        refine KX.seq_n ?_
        refine WC.seq ?_
        refine WC.seqR ?_
        refine WO.step (v := (.str a0)) rfl rfl ?_
        obtain ⟨c5, hc5, h⟩ := bindS h
        refine WO.step (v := (.int .u8 c5)) rfl (stp_idxStr rfl rfl rfl hc5) ?_
        refine WO.step (v := (.bool (decide (c5 < 128)))) rfl rfl ?_
        refine WO.nil ?_
        rcases iteS h with ⟨hc40, h⟩ | ⟨hc40, h⟩
        · refine WC.condT rfl hc40 ?_
          refine WC.seq ?_
          refine WC.draw ?_
          refine WH.step (v := (.str a0)) rfl rfl rfl rfl ?_
          obtain ⟨c8, hc8, h⟩ := bindS h
          refine WH.step (v := (.int .u8 c8)) rfl (stp_idxStr rfl rfl rfl hc8) rfl rfl ?_
          refine WH.step (v := (.int .i64 (cv .i64 c8))) rfl rfl rfl rfl ?_
          refine WH.step (v := (.int .i64 2)) rfl rfl rfl rfl ?_
          refine WH.nil ?_
          refine WO.step (v := (.int .i64 (cv .i64 c8))) rfl rfl ?_
          refine WO.step (v := (.int .i64 0)) rfl rfl ?_
          refine WO.nil ?_
          refine KX.seq_n ?_
          refine WC.ret ?_
          refine KX.seq_r ?_
          obtain rfl := Option.some.inj h
          refine KB.ret (vs := [(.int .i64 2), (.int .i64 (cv .i64 c8)), (.int .i64 0)]) (res_tmp rfl (res_tmp rfl (res_tmp rfl res_nil))) ?_
          exact rfl
        · refine WC.condF rfl hc40 ?_
          refine WC.skip ?_
          refine KX.seq_n ?_
          refine WC.seqR ?_
          refine WO.step (v := (.str a0)) rfl rfl ?_
          obtain ⟨c9, hc9, h⟩ := bindS h
          refine WO.step (v := (.int .u8 c9)) rfl (stp_idxStr rfl rfl rfl hc9) ?_
          refine WO.step (v := (.int .i64 (cv .i64 c9))) rfl rfl ?_
          refine WO.step (v := (.int .i64 (sb .i64 (cv .i64 c9) 128))) rfl rfl ?_
          refine WO.step (v := (.int .i64 (sb .i64 (cv .i64 c9) 128))) rfl rfl ?_
          refine WO.nil ?_
          refine WC.seq ?_
          refine WC.seqR ?_
          refine WO.step (v := (.int .i64 (sb .i64 (cv .i64 c9) 128))) rfl rfl ?_
          refine WO.step (v := (.bool (decide ((sb .i64 (cv .i64 c9) 128) < 1)))) rfl rfl ?_
          refine WO.step (v := (.bool (decide ((sb .i64 (cv .i64 c9) 128) < 1)))) rfl rfl ?_
          refine WO.split 3 (fun σ' S' e' => Known ([(0, (.str a0)), (5, (.int .i64 (sb .i64 (cv .i64 c9) 128))), (33, (.bool ((decide ((sb .i64 (cv .i64 c9) 128) < 1)) || (decide ((sb .i64 (cv .i64 c9) 128) > 4)))))]) σ' ∧ Hp [] [] S' [] [] ∧ e' = false) ?_ ?_
          · cases hc10 : (decide ((sb .i64 (cv .i64 c9) 128) < 1))
            · skip
              refine WO.go0 rfl rfl ?_
              refine WO.step (v := (.int .i64 (sb .i64 (cv .i64 c9) 128))) rfl rfl ?_
              refine WO.go0 rfl rfl ?_
              refine WO.step (v := (.bool (decide ((sb .i64 (cv .i64 c9) 128) > 4)))) rfl rfl ?_
              refine WO.step (v := (.bool (decide ((sb .i64 (cv .i64 c9) 128) > 4)))) rfl rfl ?_
              refine WO.nil ?_
              exact ⟨(known_cons rfl (known_cons rfl (known_cons rfl known_nil))), H, rfl⟩
            · skip
              refine WO.by rfl rfl rfl ?_
              refine WO.by rfl rfl rfl ?_
              refine WO.step (v := (.bool true)) rfl rfl ?_
              refine WO.nil ?_
              exact ⟨(known_cons rfl (known_cons rfl (known_cons rfl known_nil))), H, rfl⟩
          · rintro σ S e ⟨hk, H, rfl⟩
            refine WO.of_known hk ?_
            refine WO.nil ?_
            rcases iteS h with ⟨hc39, h⟩ | ⟨hc39, h⟩
            · refine WC.condT rfl hc39 ?_
              refine WC.seqR ?_
              refine WO.step (v := (.int .i64 0)) rfl rfl ?_
              refine WO.step (v := (.int .i64 0)) rfl rfl ?_
              refine WO.step (v := (.int .i64 11)) rfl rfl ?_
              refine WO.nil ?_
              refine WC.ret ?_
              refine KX.seq_r ?_
              obtain rfl := Option.some.inj h
              refine KB.ret (vs := [(.int .i64 0), (.int .i64 0), (.int .i64 11)]) (res_tmp rfl (res_tmp rfl (res_tmp rfl res_nil))) ?_
              exact rfl
            · refine WC.condF rfl hc39 ?_
              refine WC.skip ?_
              refine KX.seq_n ?_
              refine WC.seq ?_
              refine WC.seqR ?_
              refine WO.step (v := (.str a0)) rfl rfl ?_
              refine WO.step (v := (.int .i64 (Str.len a0))) rfl rfl ?_
              refine WO.step (v := (.int .i64 (sb .i64 (cv .i64 c9) 128))) rfl rfl ?_
              refine WO.step (v := (.int .i64 (ad .i64 2 (sb .i64 (cv .i64 c9) 128)))) rfl rfl ?_
              refine WO.step (v := (.bool (decide ((Str.len a0) < (ad .i64 2 (sb .i64 (cv .i64 c9) 128)))))) rfl rfl ?_
              refine WO.nil ?_
              rcases iteS h with ⟨hc38, h⟩ | ⟨hc38, h⟩
              · refine WC.condT rfl hc38 ?_
                refine WC.seqR ?_
                refine WO.step (v := (.int .i64 0)) rfl rfl ?_
                refine WO.step (v := (.int .i64 0)) rfl rfl ?_
                refine WO.step (v := (.int .i64 10)) rfl rfl ?_
                refine WO.nil ?_
                refine WC.ret ?_
                refine KX.seq_r ?_
                obtain rfl := Option.some.inj h
                refine KB.ret (vs := [(.int .i64 0), (.int .i64 0), (.int .i64 10)]) (res_tmp rfl (res_tmp rfl (res_tmp rfl res_nil))) ?_
                exact rfl
              · refine WC.condF rfl hc38 ?_
                refine WC.skip ?_
                refine KX.seq_n ?_
                refine WC.seqR ?_
                refine WO.step (v := (.int .i64 0)) rfl rfl ?_
                refine WO.nil ?_
                refine WC.seq ?_
                refine WC.seqR ?_
                refine WO.step (v := (.int .i64 0)) rfl rfl ?_
                refine WO.nil ?_
                obtain ⟨y35, hy35, hOy35⟩ := bindS h
                refine WC.block ?_
                refine l43_L0 ?_ hy35  (known_cons rfl (known_cons rfl (known_cons rfl (known_cons rfl known_nil)))) (H.sub .slnil .slnil)
                · intro σ S  hk H; replace h := hOy35
                  refine KX.of_known hk ?_
                  refine KX.block_x ?_
                  refine KX.seq_n ?_
                  refine WC.seq ?_
                  refine WC.seqR ?_
                  refine WO.step (v := (.int .i64 y35.1)) rfl rfl ?_
                  refine WO.step (v := (.bool (decide (y35.1 > 4000)))) rfl rfl ?_
                  refine WO.nil ?_
                  rcases iteS h with ⟨hc37, h⟩ | ⟨hc37, h⟩
                  · refine WC.condT rfl hc37 ?_
                    refine WC.seqR ?_
                    refine WO.step (v := (.int .i64 0)) rfl rfl ?_
                    refine WO.step (v := (.int .i64 0)) rfl rfl ?_
                    refine WO.step (v := (.int .i64 13)) rfl rfl ?_
                    refine WO.nil ?_
                    refine WC.ret ?_
                    refine KX.seq_r ?_
                    obtain rfl := Option.some.inj h
                    refine KB.ret (vs := [(.int .i64 0), (.int .i64 0), (.int .i64 13)]) (res_tmp rfl (res_tmp rfl (res_tmp rfl res_nil))) ?_
                    exact rfl
                  · refine WC.condF rfl hc37 ?_
                    refine WC.skip ?_
                    refine KX.seq_n ?_
                    refine WC.seqR ?_
                    refine WO.step (v := (.int .i64 (sb .i64 (cv .i64 c9) 128))) rfl rfl ?_
                    refine WO.step (v := (.int .i64 (ad .i64 2 (sb .i64 (cv .i64 c9) 128)))) rfl rfl ?_
                    refine WO.step (v := (.int .i64 y35.1)) rfl rfl ?_
                    refine WO.step (v := (.int .i64 (ad .i64 2 (sb .i64 (cv .i64 c9) 128)))) rfl rfl ?_
                    refine WO.step (v := (.int .i64 y35.1)) rfl rfl ?_
                    refine WO.step (v := (.int .i64 0)) rfl rfl ?_
                    refine WO.nil ?_
                    refine WC.ret ?_
                    obtain rfl := Option.some.inj h
                    refine KB.ret (vs := [(.int .i64 (ad .i64 2 (sb .i64 (cv .i64 c9) 128))), (.int .i64 y35.1), (.int .i64 0)]) (res_tmp rfl (res_tmp rfl (res_tmp rfl res_nil))) ?_
                    exact rfl
-- 17 (*prefect/prefectref1.Cutter).Next
/-- (*prefect/prefectref1.Cutter).Next -/
def F17 (k : Nat) (a0 : Prefectref1_Cutter) : Option (Prefectref1_Cutter × Str × Int) :=
  Option.bind (F43 k a0.B) fun y1 =>
  if y1.2.2 != 0 then
  some (a0, [], y1.2.2)
  else
  if decide ((Str.len a0.B) < (ad .i64 y1.1 y1.2.1)) then
  some (a0, [], 10)
  else
  Option.bind (Str.sub? a0.B 0 (ad .i64 y1.1 y1.2.1)) fun z4 =>
  Option.bind (Str.sub? a0.B (ad .i64 y1.1 y1.2.1) (Str.len a0.B)) fun z5 =>
  some ((Prefectref1_Cutter.mk z5), z4, 0)
theorem s17 : ∀ k : Nat, ∀ {a0 : Prefectref1_Cutter} {r : Prefectref1_Cutter × Str × Int}, F17 k a0 = some r → ∀ {id : Nat} {S : List SObj}, S[id]? = some (.cells [(.str a0.B)]) → evw env 17 [.ptr id 0] S = some ((.tup [(.str r.2.1), (.int .i64 r.2.2)]), S.set id (.cells [(.str r.1.B)]), false) := by
  intro k a0 r h id S0 hS
  unfold F17 at h
  refine evw_recvW (pf := fn17) rfl rfl (Nat.le_of_ble_eq_true rfl) rfl ?_
  refine WB.of (pf := fn17) rfl ?_
  have H := Hp.start1 hS
  refine WC.seqR ?_
  refine WO.step (v := (.str [])) rfl rfl ?_
  refine WO.step (v := (.int .i64 0)) rfl rfl ?_
  refine WO.nil ?_
  refine WC.seqR ?_
  refine WO.step (v := (.ptr id 0)) rfl rfl ?_
  refine WO.step (v := (.ptr id 0)) rfl rfl ?_
  refine WO.step (v := (.ptr id 0)) rfl rfl ?_
  refine WO.step (v := (.str a0.B)) rfl (stp_load rfl (H.get 0 rfl) rfl) ?_
  obtain ⟨y1, hy1, h⟩ := bindS h
  refine WO.step (v := (.tup [(.int .i64 y1.1), (.int .i64 y1.2.1), (.int .i64 y1.2.2)])) rfl (stp_call (vs := [(.str a0.B)]) rfl rfl (s43 _ hy1 rfl _)) ?_
  refine WO.step (v := (.tup [(.int .i64 y1.1), (.int .i64 y1.2.1), (.int .i64 y1.2.2)])) rfl rfl ?_
  refine WO.step (v := (.int .i64 y1.1)) rfl rfl ?_
  refine WO.step (v := (.int .i64 y1.2.1)) rfl rfl ?_
  refine WO.step (v := (.int .i64 y1.2.2)) rfl rfl ?_
  refine WO.step (v := (.int .i64 y1.1)) rfl rfl ?_
  refine WO.step (v := (.int .i64 y1.2.1)) rfl rfl ?_
  refine WO.step (v := (.int .i64 y1.2.2)) rfl rfl ?_
  refine WO.nil ?_
  refine WC.seq ?_
  refine WC.seqR ?_
  refine WO.step (v := (.int .i64 y1.2.2)) rfl rfl ?_
  refine WO.step (v := (.bool (y1.2.2 != 0))) rfl rfl ?_
  refine WO.nil ?_
  rcases iteS h with ⟨hc7, h⟩ | ⟨hc7, h⟩
  · refine WC.condT rfl hc7 ?_
    refine WC.seqR ?_
    refine WO.step (v := (.int .i64 y1.2.2)) rfl rfl ?_
    refine WO.step (v := (.str [])) rfl rfl ?_
    refine WO.step (v := (.int .i64 y1.2.2)) rfl rfl ?_
    refine WO.nil ?_
    refine WC.ret ?_
    refine KX.seq_r ?_
    obtain rfl := Option.some.inj h
    refine KB.ret (vs := [(.str []), (.int .i64 y1.2.2)]) (res_tmp rfl (res_tmp rfl res_nil)) ?_
    exact leave_hp hS H 0 rfl rfl rfl
  · refine WC.condF rfl hc7 ?_
    refine WC.skip ?_
    refine KX.seq_n ?_
    refine WC.seq ?_
    refine WC.seqR ?_
    refine WO.step (v := (.ptr id 0)) rfl rfl ?_
    refine WO.step (v := (.ptr id 0)) rfl rfl ?_
    refine WO.step (v := (.ptr id 0)) rfl rfl ?_
    refine WO.step (v := (.str a0.B)) rfl (stp_load rfl (H.get 0 rfl) rfl) ?_
    refine WO.step (v := (.int .i64 (Str.len a0.B))) rfl rfl ?_
    refine WO.step (v := (.int .i64 y1.1)) rfl rfl ?_
    refine WO.step (v := (.int .i64 y1.2.1)) rfl rfl ?_
    refine WO.step (v := (.int .i64 (ad .i64 y1.1 y1.2.1))) rfl rfl ?_
    refine WO.step (v := (.bool (decide ((Str.len a0.B) < (ad .i64 y1.1 y1.2.1))))) rfl rfl ?_
    refine WO.nil ?_
    rcases iteS h with ⟨hc6, h⟩ | ⟨hc6, h⟩
    · refine WC.condT rfl hc6 ?_
      refine WC.seqR ?_
      refine WO.step (v := (.str [])) rfl rfl ?_
      refine WO.step (v := (.int .i64 10)) rfl rfl ?_
      refine WO.nil ?_
      refine WC.ret ?_
      refine KX.seq_r ?_
      obtain rfl := Option.some.inj h
      refine KB.ret (vs := [(.str []), (.int .i64 10)]) (res_tmp rfl (res_tmp rfl res_nil)) ?_
      exact leave_hp hS H 0 rfl rfl rfl
    · refine WC.condF rfl hc6 ?_
      refine WC.skip ?_
      refine KX.seq_n ?_
      refine WC.seqR ?_
      refine WO.step (v := (.ptr id 0)) rfl rfl ?_
      refine WO.step (v := (.ptr id 0)) rfl rfl ?_
      refine WO.step (v := (.ptr id 0)) rfl rfl ?_
      refine WO.step (v := (.str a0.B)) rfl (stp_load rfl (H.get 0 rfl) rfl) ?_
      refine WO.step (v := (.int .i64 y1.1)) rfl rfl ?_
      refine WO.step (v := (.int .i64 y1.2.1)) rfl rfl ?_
      refine WO.step (v := (.int .i64 (ad .i64 y1.1 y1.2.1))) rfl rfl ?_
      obtain ⟨z4, hz4, h⟩ := bindS h
      refine WO.step (v := (.str z4)) rfl (stp_subStr rfl rfl rfl rfl hz4) ?_
      refine WO.step (v := (.str z4)) rfl rfl ?_
      refine WO.nil ?_
      refine WC.seqR ?_
      refine WO.step (v := (.ptr id 0)) rfl rfl ?_
      refine WO.step (v := (.ptr id 0)) rfl rfl ?_
      refine WO.step (v := (.ptr id 0)) rfl rfl ?_
      refine WO.step (v := (.ptr id 0)) rfl rfl ?_
      refine WO.step (v := (.str a0.B)) rfl (stp_load rfl (H.get 0 rfl) rfl) ?_
      refine WO.step (v := (.int .i64 y1.1)) rfl rfl ?_
      refine WO.step (v := (.int .i64 y1.2.1)) rfl rfl ?_
      refine WO.step (v := (.int .i64 (ad .i64 y1.1 y1.2.1))) rfl rfl ?_
      obtain ⟨z5, hz5, h⟩ := bindS h
      refine WO.step (v := (.str z5)) rfl (stp_subStr rfl rfl rfl rfl hz5) ?_
      refine WO.step (v := (.ptr id 0)) rfl rfl ?_
      refine WO.step (v := (.ptr id 0)) rfl rfl ?_
      refine WO.store 0 rfl H rfl rfl rfl rfl rfl rfl rfl (Nat.le_of_ble_eq_true rfl) rfl (clean_e rfl) ?_
      intro S H
      replace H : Hp S0 [id] _ [(id, [(.str z5)])] [] := H
      refine WO.nil ?_
      refine WC.seqR ?_
      refine WO.step (v := (.str z4)) rfl rfl ?_
      refine WO.step (v := (.str z4)) rfl rfl ?_
      refine WO.step (v := (.int .i64 0)) rfl rfl ?_
      refine WO.nil ?_
      refine WC.ret ?_
      obtain rfl := Option.some.inj h
      refine KB.ret (vs := [(.str z4), (.int .i64 0)]) (res_tmp rfl (res_tmp rfl res_nil)) ?_
      exact leave_hp hS H 0 rfl rfl rfl
-- 5 prefect/prefectlaw3.FramePlays
def F5_L2 (k : Nat) (a750 : Sl Str) (a751 : Sl Int) (a752 : Int) (a753 : Int) : Nat → Int → Prefectref1_Cutter → Frame_Cutter → Option (Out Bool (Int × Prefectref1_Cutter × Frame_Cutter))
  | 0, _, _, _ => none
  | n + 1, x754, b755, b756 =>
    if decide (x754 < a753) then
    Option.bind (F13 k b756 ) fun y771 =>
    Option.bind (F17 k b755 ) fun y772 =>
    Option.bind (if !(y771.2.1 == y772.2.1) then
    some (true, y771.1)
    else
    if y771.2.2 != y772.2.2 then
    some (true, y771.1)
    else
    Option.bind (F14 k y771.1 ) fun y778 =>
    some (y778.2 != (Str.len y772.1.B), y778.1)) fun y777 =>
    if y777.1 then
    some (Out.ret false)
    else
    F5_L2 k a750 a751 a752 a753 n (ad .i64 x754 1) y772.1 y777.2
    else
    some (Out.brk (x754, b755, b756))
def F5_L0 (k : Nat) (a526 : Sl Str) (a527 : Sl Int) : Nat → Int → Prefectref1_Cutter → Frame_Cutter → Option (Out Bool (Int × Prefectref1_Cutter × Frame_Cutter))
  | 0, _, _, _ => none
  | n + 1, x528, b529, b530 =>
    if decide (x528 < (Sl.len a526)) then
    Option.bind (Sl.at? a526 x528) fun y660 =>
    if decide ((Str.len y660) > 6000) then
    some (Out.ret true)
    else
    Option.bind (F15 k b530 ) fun y663 =>
    Option.bind (Sl.at? a526 x528) fun y664 =>
    Option.bind (F12 k y663.1 y664) fun y665 =>
    Option.bind (Sl.at? a526 x528) fun y667 =>
    Option.bind (F16 k b529 y667) fun y668 =>
    if y665.2 != y668.2 then
    some (Out.ret false)
    else
    Option.bind (F12 k y663.2 [120]) fun y670 =>
    Option.bind (if decide (x528 < (Sl.len a527)) then
    Option.bind (Sl.at? a527 x528) fun y678 =>
    Option.bind (rem? y678 4) fun z679 =>
    some (cv .i64 z679)
    else
    some 1) fun y677 =>
    Option.bind (F5_L2 k a526 a527 x528 y677 k 0 y668.1 y665.1) fun y785 =>
    match y785 with
    | .ret y785r => some (Out.ret y785r)
    | .brk y785b =>
    F5_L0 k a526 a527 n (ad .i64 x528 1) y785b.2.1 y785b.2.2
    else
    some (Out.brk (x528, b529, b530))
/-- prefect/prefectlaw3.FramePlays -/
def F5 (k : Nat) (a0 : Sl Str) (a1 : Sl Int) : Option Bool :=
  Option.bind (F9 k ) fun y1 =>
  if !y1 then
  some false
  else
  if decide ((Sl.len a0) > 40) then
  some true
  else
  Option.bind (F11 k ) fun y5 =>
  Option.bind (F5_L0 k a0 a1 k 0 (Prefectref1_Cutter.mk []) y5) fun y789 =>
  match y789 with
  | .ret y789r => some y789r
  | .brk y789b =>
  Option.bind (F14 k y789b.2.2 ) fun y790 =>
  some (y790.2 == (Str.len y789b.2.1.B))
theorem l5_L2 {k : Nat} {a750 : Sl Str} {a751 : Sl Int} {a752 : Int} {a753 : Int} {S0 : List SObj} {R : List Nat} {K : KX} {i6 : Nat} {i4 : Nat} (hi6 : S0.length ≤ i6) (hi4 : S0.length ≤ i4)  {o : Out Bool (Int × Prefectref1_Cutter × Frame_Cutter)}
    (hret : ∀ r : Bool, o = .ret r → ∀ {σ' : Nat → PV} {S' : List SObj}, Known [(4, (.bool r))] σ' → Hp S0 R S' [] [] → K .ret σ' S' false)
    (hbrk : ∀ y : Int × Prefectref1_Cutter × Frame_Cutter, o = .brk y → ∀ {σ' : Nat → PV} {S' : List SObj}, Known [(0, (encSl eS a750)), (1, (encSl (eI .u8) a751)), (5, (.ptr i4 0)), (6, (.ptr i6 0)), (7, (.int .i64 a752)), (10, (.int .i64 y.1))] σ' → Hp S0 R S' [(i6, [(.str y.2.1.B)]), (i4, [(.str y.2.2.s_)])] [] → K (.exit 2) σ' S' false) :
    ∀ {n : Nat} {x754 : Int} {b755 : Prefectref1_Cutter} {b756 : Frame_Cutter}, F5_L2 k a750 a751 a752 a753 n x754 b755 b756 = some o → ∀ {σ : Nat → PV} {S : List SObj}, Known [(0, (encSl eS a750)), (1, (encSl (eI .u8) a751)), (5, (.ptr i4 0)), (6, (.ptr i6 0)), (7, (.int .i64 a752)), (9, (.int .i64 a753)), (10, (.int .i64 x754))] σ → Hp S0 R S [(i6, [(.str b755.B)]), (i4, [(.str b756.s_)])] [] → WC env ⟨103, S0.length⟩ (.loop pc5L2) σ S false K := by
  intro n
  induction n with
  | zero => intro _ _ _ h; cases h
  | succ n ih =>
    intro x754 b755 b756 h σ S  hk H
    rw [F5_L2] at h
    refine WC.loop ?_
    refine WC.of_known hk ?_
    refine WC.seq ?_
    refine WC.seqR ?_
    refine WO.step (v := (.int .i64 x754)) rfl rfl ?_
    refine WO.step (v := (.int .i64 a753)) rfl rfl ?_
    refine WO.step (v := (.bool (decide (x754 < a753)))) rfl rfl ?_
    refine WO.nil ?_
    rcases iteS h with ⟨hc784, h⟩ | ⟨hc784, h⟩
    · refine WC.condT rfl hc784 ?_
      refine WC.skip ?_
      refine KX.seq_n ?_
      refine WC.seq ?_
      refine WC.block ?_
      refine WC.seqR ?_
      refine WO.step (v := (.ptr i4 0)) rfl rfl ?_
      obtain ⟨y771, hy771, h⟩ := bindS h
      refine WO.callR 1 rfl rfl rfl H rfl (s13 _ hy771 (H.get 1 rfl)) ?_
      intro S H
      replace H : Hp S0 R _ [(i6, [(.str b755.B)]), (i4, [(.str y771.1.s_)])] [] := H
      refine WO.step (v := (.tup [(.str y771.2.1), (.int .i64 y771.2.2)])) rfl rfl ?_
      refine WO.step (v := (.str y771.2.1)) rfl rfl ?_
      refine WO.step (v := (.int .i64 y771.2.2)) rfl rfl ?_
      refine WO.step (v := (.str y771.2.1)) rfl rfl ?_
      refine WO.step (v := (.int .i64 y771.2.2)) rfl rfl ?_
      refine WO.nil ?_
      refine WC.seqR ?_
      refine WO.step (v := (.ptr i6 0)) rfl rfl ?_
      obtain ⟨y772, hy772, h⟩ := bindS h
      refine WO.callR 0 rfl rfl rfl H rfl (s17 _ hy772 (H.get 0 rfl)) ?_
      intro S H
      replace H : Hp S0 R _ [(i6, [(.str y772.1.B)]), (i4, [(.str y771.1.s_)])] [] := H
      refine WO.step (v := (.tup [(.str y772.2.1), (.int .i64 y772.2.2)])) rfl rfl ?_
      refine WO.step (v := (.str y772.2.1)) rfl rfl ?_
      refine WO.step (v := (.int .i64 y772.2.2)) rfl rfl ?_
      refine WO.step (v := (.str y772.2.1)) rfl rfl ?_
      refine WO.step (v := (.int .i64 y772.2.2)) rfl rfl ?_
      refine WO.nil ?_
      refine WC.seq ?_
      obtain ⟨y777, hy777, hOy777⟩ := bindS h
      refine WC.drawJ (fun σ' S' e' => Known ([(0, (encSl eS a750)), (1, (encSl (eI .u8) a751)), (5, (.ptr i4 0)), (6, (.ptr i6 0)), (7, (.int .i64 a752)), (9, (.int .i64 a753)), (10, (.int .i64 x754)), (94, (.bool y777.1))]) σ' ∧ Hp S0 R S' [(i6, [(.str y772.1.B)]), (i4, [(.str y777.2.s_)])] [] ∧ e' = false) ?_ ?_
      · replace h := hy777
        refine WK.step (v := (.str y771.2.1)) rfl rfl rfl rfl rfl rfl ?_
        refine WK.step (v := (.str y772.2.1)) rfl rfl rfl rfl rfl rfl ?_
        refine WK.step (v := (.bool (!(y771.2.1 == y772.2.1)))) rfl rfl rfl rfl rfl rfl ?_
        refine WK.step (v := (.bool (!(y771.2.1 == y772.2.1)))) rfl rfl rfl rfl rfl rfl ?_
        cases hc781 : (!(y771.2.1 == y772.2.1))
        · replace h := iteF h hc781
          refine WK.go0 rfl rfl ?_
          refine WK.step (v := (.int .i64 y771.2.2)) rfl rfl rfl rfl rfl rfl ?_
          refine WK.go0 rfl rfl ?_
          refine WK.step (v := (.int .i64 y772.2.2)) rfl rfl rfl rfl rfl rfl ?_
          refine WK.go0 rfl rfl ?_
          refine WK.step (v := (.bool (y771.2.2 != y772.2.2))) rfl rfl rfl rfl rfl rfl ?_
          refine WK.step (v := (.bool (y771.2.2 != y772.2.2))) rfl rfl rfl rfl rfl rfl ?_
          refine WK.step (v := (.bool (y771.2.2 != y772.2.2))) rfl rfl rfl rfl rfl rfl ?_
          cases hc780 : (y771.2.2 != y772.2.2)
          · replace h := iteF h hc780
            refine WK.go0 rfl rfl ?_
            refine WK.step (v := (.ptr i4 0)) rfl rfl rfl rfl rfl rfl ?_
            refine WK.go0 rfl rfl ?_
            obtain ⟨y778, hy778, h⟩ := bindS h
            have Hh779 := H
            refine WK.callR 1 rfl rfl rfl H rfl (s14 _ hy778 (H.get 1 rfl)) ?_
            intro S H
            replace H : Hp S0 R _ [(i6, [(.str y772.1.B)]), (i4, [(.str y778.1.s_)])] [] := H
            refine ⟨pend_nil, ?_⟩
            refine WK.go0 rfl rfl ?_
            refine WK.step (v := (.ptr i6 0)) rfl rfl rfl rfl rfl rfl ?_
            refine WK.go0 rfl rfl ?_
            refine WK.step (v := (.ptr i6 0)) rfl rfl rfl rfl rfl rfl ?_
            refine WK.go0 rfl rfl ?_
            refine WK.step (v := (.ptr i6 0)) rfl rfl rfl rfl rfl rfl ?_
            refine WK.go0 rfl rfl ?_
            refine WK.load rfl rfl (ld (H.get 0 rfl) rfl) (hist_cons (ld (Hh779.get 0 rfl) rfl) hist_nil) ?_
            refine WK.go0 rfl rfl ?_
            refine WK.step (v := (.int .i64 (Str.len y772.1.B))) rfl rfl rfl rfl rfl rfl ?_
            refine WK.nil ?_
            refine WO.go0 rfl rfl ?_
            refine WO.step (v := (.bool (y778.2 != (Str.len y772.1.B)))) rfl rfl ?_
            refine WO.step (v := (.bool (y778.2 != (Str.len y772.1.B)))) rfl rfl ?_
            refine WO.nil ?_
            obtain rfl := Option.some.inj h
            exact ⟨(known_cons rfl (known_cons rfl (known_cons rfl (known_cons rfl (known_cons rfl (known_cons rfl (known_cons rfl (known_cons rfl known_nil)))))))), (H.sub (.cons_cons _ (.cons_cons _ .slnil)) .slnil), rfl⟩
          · replace h := iteT h hc780
            refine WK.by rfl rfl rfl ?_
            refine WK.by rfl rfl rfl ?_
            refine WK.by rfl rfl rfl ?_
            refine WK.by rfl rfl rfl ?_
            refine WK.by rfl rfl rfl ?_
            refine WK.by rfl rfl rfl ?_
            refine WK.by rfl rfl rfl ?_
            refine WK.nil ?_
            refine WO.by rfl rfl rfl ?_
            refine WO.step (v := (.bool true)) rfl rfl ?_
            refine WO.nil ?_
            obtain rfl := Option.some.inj h
            exact ⟨(known_cons rfl (known_cons rfl (known_cons rfl (known_cons rfl (known_cons rfl (known_cons rfl (known_cons rfl (known_cons rfl known_nil)))))))), (H.sub (.cons_cons _ (.cons_cons _ .slnil)) .slnil), rfl⟩
        · replace h := iteT h hc781
          refine WK.by rfl rfl rfl ?_
          refine WK.by rfl rfl rfl ?_
          refine WK.by rfl rfl rfl ?_
          refine WK.step (v := (.bool true)) rfl rfl rfl rfl rfl rfl ?_
          refine WK.step (v := (.bool true)) rfl rfl rfl rfl rfl rfl ?_
          refine WK.by rfl rfl rfl ?_
          refine WK.by rfl rfl rfl ?_
          refine WK.by rfl rfl rfl ?_
          refine WK.by rfl rfl rfl ?_
          refine WK.by rfl rfl rfl ?_
          refine WK.by rfl rfl rfl ?_
          refine WK.by rfl rfl rfl ?_
          refine WK.nil ?_
          refine WO.by rfl rfl rfl ?_
          refine WO.step (v := (.bool true)) rfl rfl ?_
          refine WO.nil ?_
          obtain rfl := Option.some.inj h
          exact ⟨(known_cons rfl (known_cons rfl (known_cons rfl (known_cons rfl (known_cons rfl (known_cons rfl (known_cons rfl (known_cons rfl known_nil)))))))), (H.sub (.cons_cons _ (.cons_cons _ .slnil)) .slnil), rfl⟩
      · rintro σ S e ⟨hk, H, rfl⟩
        replace h := hOy777
        refine KX.of_known hk ?_
        refine KX.seq_n ?_
        rcases iteS h with ⟨hc783, h⟩ | ⟨hc783, h⟩
        · refine WC.condT rfl hc783 ?_
          refine WC.seqR ?_
          refine WO.step (v := (.bool false)) rfl rfl ?_
          refine WO.nil ?_
          refine WC.ret ?_
          refine KX.block_r ?_
          refine KX.seq_r ?_
          refine KX.seq_r ?_
          obtain rfl := Option.some.inj h
          exact hret _ rfl (known_cons rfl known_nil) (H.sub (.cons _ (.cons _ .slnil)) .slnil)
        · refine WC.condF rfl hc783 ?_
          refine WC.skip ?_
          refine KX.block_n ?_
          refine KX.seq_n ?_
          refine WC.region ?_
          refine WO.step (v := (.int .i64 x754)) rfl rfl ?_
          refine WO.step (v := (.int .i64 (ad .i64 x754 1))) rfl rfl ?_
          refine WO.step (v := (.int .i64 (ad .i64 x754 1))) rfl rfl ?_
          refine WO.nil ?_
          refine KX.seq_n ?_
          exact ih h  (known_cons rfl (known_cons rfl (known_cons rfl (known_cons rfl (known_cons rfl (known_cons rfl (known_cons rfl known_nil))))))) (H.sub (.cons_cons _ (.cons_cons _ .slnil)) .slnil)
    · refine WC.condF rfl hc784 ?_
      refine WC.exit ?_
      refine KX.seq_x ?_
      refine KX.seq_x ?_
      obtain rfl := Option.some.inj h
      exact hbrk _ rfl  (known_cons rfl (known_cons rfl (known_cons rfl (known_cons rfl (known_cons rfl (known_cons rfl known_nil)))))) (H.sub (.cons_cons _ (.cons_cons _ .slnil)) .slnil)
theorem l5_L0 {k : Nat} {a526 : Sl Str} {a527 : Sl Int} {S0 : List SObj} {R : List Nat} {K : KX} {i6 : Nat} {i4 : Nat} (hi6 : S0.length ≤ i6) (hi4 : S0.length ≤ i4)  {o : Out Bool (Int × Prefectref1_Cutter × Frame_Cutter)}
    (hret : ∀ r : Bool, o = .ret r → ∀ {σ' : Nat → PV} {S' : List SObj}, Known [(4, (.bool r))] σ' → Hp S0 R S' [] [] → K .ret σ' S' false)
    (hbrk : ∀ y : Int × Prefectref1_Cutter × Frame_Cutter, o = .brk y → ∀ {σ' : Nat → PV} {S' : List SObj}, Known [(5, (.ptr i4 0)), (6, (.ptr i6 0)), (7, (.int .i64 y.1))] σ' → Hp S0 R S' [(i6, [(.str y.2.1.B)]), (i4, [(.str y.2.2.s_)])] [] → K (.exit 0) σ' S' false) :
    ∀ {n : Nat} {x528 : Int} {b529 : Prefectref1_Cutter} {b530 : Frame_Cutter}, F5_L0 k a526 a527 n x528 b529 b530 = some o → ∀ {σ : Nat → PV} {S : List SObj}, Known [(0, (encSl eS a526)), (1, (encSl (eI .u8) a527)), (5, (.ptr i4 0)), (6, (.ptr i6 0)), (7, (.int .i64 x528))] σ → Hp S0 R S [(i6, [(.str b529.B)]), (i4, [(.str b530.s_)])] [] → WC env ⟨103, S0.length⟩ (.loop pc5L0) σ S false K := by
  intro n
  induction n with
  | zero => intro _ _ _ h; cases h
  | succ n ih =>
    intro x528 b529 b530 h σ S  hk H
    rw [F5_L0] at h
    refine WC.loop ?_
    refine WC.of_known hk ?_
    refine WC.seq ?_
    refine WC.seqR ?_
    refine WO.step (v := (.int .i64 x528)) rfl rfl ?_
    refine WO.step (v := (encSl eS a526)) rfl rfl ?_
    refine WO.step (v := (.int .i64 (Sl.len a526))) rfl (stp_len rfl (isSl_enc _ _) rfl) ?_
    refine WO.step (v := (.bool (decide (x528 < (Sl.len a526))))) rfl rfl ?_
    refine WO.nil ?_
    rcases iteS h with ⟨hc788, h⟩ | ⟨hc788, h⟩
    · refine WC.condT rfl hc788 ?_
      refine WC.skip ?_
      refine KX.seq_n ?_
      refine WC.seq ?_
      refine WC.block ?_
      refine WC.seq ?_
      refine WC.seqR ?_
      refine WO.step (v := (encSl eS a526)) rfl rfl ?_
      refine WO.step (v := (.int .i64 x528)) rfl rfl ?_
      obtain ⟨y660, hy660, h⟩ := bindS h
      refine WO.step (v := (.iptr [(.str y660)] 0)) rfl (stp_idxAddr rfl (isSl_enc _ _) rfl rfl rfl hy660 rfl rfl) ?_
      refine WO.step (v := (.str y660)) rfl rfl ?_
      refine WO.step (v := (.int .i64 (Str.len y660))) rfl rfl ?_
      refine WO.step (v := (.bool (decide ((Str.len y660) > 6000)))) rfl rfl ?_
      refine WO.nil ?_
      rcases iteS h with ⟨hc787, h⟩ | ⟨hc787, h⟩
      · refine WC.condT rfl hc787 ?_
        refine WC.seqR ?_
        refine WO.step (v := (.bool true)) rfl rfl ?_
        refine WO.nil ?_
        refine WC.ret ?_
        refine KX.seq_r ?_
        refine KX.block_r ?_
        refine KX.seq_r ?_
        refine KX.seq_r ?_
        obtain rfl := Option.some.inj h
        exact hret _ rfl (known_cons rfl known_nil) (H.sub (.cons _ (.cons _ .slnil)) .slnil)
      · refine WC.condF rfl hc787 ?_
        refine WC.skip ?_
        refine KX.seq_n ?_
        refine WC.seqR ?_
        refine WO.step (v := (.ptr i4 0)) rfl rfl ?_
        obtain ⟨y663, hy663, h⟩ := bindS h
        refine WO.callNR 1 rfl rfl rfl H rfl (s15 _ hy663 (H.get 1 rfl)) ?_
        intro i662 S hi662 H
        replace H : Hp S0 R _ [(i662, [(.str y663.2.s_)]), (i6, [(.str b529.B)]), (i4, [(.str y663.1.s_)])] [] := H
        refine WO.step (v := (.ptr i662 0)) rfl rfl ?_
        refine WO.nil ?_
        refine WC.seq ?_
        refine WC.seq ?_
        refine WC.drawC ?_
        refine WK.step (v := (.ptr i4 0)) rfl rfl rfl rfl rfl rfl ?_
        refine WK.step (v := (encSl eS a526)) rfl rfl rfl rfl rfl rfl ?_
        refine WK.step (v := (.int .i64 x528)) rfl rfl rfl rfl rfl rfl ?_
        obtain ⟨y664, hy664, h⟩ := bindS h
        refine WK.step (v := (.iptr [(.str y664)] 0)) rfl (stp_idxAddr rfl (isSl_enc _ _) rfl rfl rfl hy664 rfl rfl) rfl rfl rfl rfl ?_
        refine WK.step (v := (.str y664)) rfl rfl rfl rfl rfl rfl ?_
        obtain ⟨y665, hy665, h⟩ := bindS h
        have Hh666 := H
        refine WK.callR 2 rfl rfl rfl H rfl (s12 _ hy665 (H.get 2 rfl)) ?_
        intro S H
        replace H : Hp S0 R _ [(i662, [(.str y663.2.s_)]), (i6, [(.str b529.B)]), (i4, [(.str y665.1.s_)])] [] := H
        refine ⟨pend_nil, ?_⟩
        refine WK.step (v := (.ptr i6 0)) rfl rfl rfl rfl rfl rfl ?_
        refine WK.step (v := (encSl eS a526)) rfl rfl rfl rfl rfl rfl ?_
        refine WK.step (v := (.int .i64 x528)) rfl rfl rfl rfl rfl rfl ?_
        obtain ⟨y667, hy667, h⟩ := bindS h
        refine WK.step (v := (.iptr [(.str y667)] 0)) rfl (stp_idxAddr rfl (isSl_enc _ _) rfl rfl rfl hy667 rfl rfl) rfl rfl rfl rfl ?_
        refine WK.step (v := (.str y667)) rfl rfl rfl rfl rfl rfl ?_
        refine WK.nil ?_
        obtain ⟨y668, hy668, h⟩ := bindS h
        refine WO.callR 1 rfl rfl rfl H rfl (s16 _ hy668 (H.get 1 rfl)) ?_
        intro S H
        replace H : Hp S0 R _ [(i662, [(.str y663.2.s_)]), (i6, [(.str y668.1.B)]), (i4, [(.str y665.1.s_)])] [] := H
        refine WO.step (v := (.bool (y665.2 != y668.2))) rfl rfl ?_
        refine WO.nil ?_
        refine KX.seq_n ?_
        rcases iteS h with ⟨hc786, h⟩ | ⟨hc786, h⟩
        · refine WC.condT rfl hc786 ?_
          refine WC.seqR ?_
          refine WO.step (v := (.bool false)) rfl rfl ?_
          refine WO.nil ?_
          refine WC.ret ?_
          refine KX.seq_r ?_
          refine KX.block_r ?_
          refine KX.seq_r ?_
          refine KX.seq_r ?_
          obtain rfl := Option.some.inj h
          exact hret _ rfl (known_cons rfl known_nil) (H.sub (.cons _ (.cons _ (.cons _ .slnil))) .slnil)
        · refine WC.condF rfl hc786 ?_
          refine WC.skip ?_
          refine KX.seq_n ?_
          refine WC.seqR ?_
          refine WO.step (v := (.ptr i662 0)) rfl rfl ?_
          obtain ⟨y670, hy670, h⟩ := bindS h
          refine WO.callR 0 rfl rfl rfl H rfl (s12 _ hy670 (H.get 0 rfl)) ?_
          intro S H
          replace H : Hp S0 R _ [(i662, [(.str y670.1.s_)]), (i6, [(.str y668.1.B)]), (i4, [(.str y665.1.s_)])] [] := H
          refine WO.nil ?_
          refine WC.seqR ?_
          refine WO.step (v := (.int .i64 1)) rfl rfl ?_
          refine WO.nil ?_
          refine WC.seq ?_
          refine WC.seqR ?_
          refine WO.step (v := (.int .i64 x528)) rfl rfl ?_
          refine WO.step (v := (encSl (eI .u8) a527)) rfl rfl ?_
          refine WO.step (v := (.int .i64 (Sl.len a527))) rfl (stp_len rfl (isSl_enc _ _) rfl) ?_
          refine WO.step (v := (.bool (decide (x528 < (Sl.len a527))))) rfl rfl ?_
          refine WO.nil ?_
          obtain ⟨y677, hy677, hOy677⟩ := bindS h
          refine WC.join (fun σ' S' e' => Known ([(0, (encSl eS a526)), (1, (encSl (eI .u8) a527)), (5, (.ptr i4 0)), (6, (.ptr i6 0)), (7, (.int .i64 x528)), (9, (.int .i64 y677))]) σ' ∧ Hp S0 R S' [(i662, [(.str y670.1.s_)]), (i6, [(.str y668.1.B)]), (i4, [(.str y665.1.s_)])] [] ∧ e' = false) ?_ ?_
          · replace h := hy677
            rcases iteS h with ⟨hc680, h⟩ | ⟨hc680, h⟩
            · refine WC.condT rfl hc680 ?_
              refine WC.region ?_
              refine WO.step (v := (encSl (eI .u8) a527)) rfl rfl ?_
              refine WO.step (v := (.int .i64 x528)) rfl rfl ?_
              obtain ⟨y678, hy678, h⟩ := bindS h
              refine WO.step (v := (.iptr [(.int .u8 y678)] 0)) rfl (stp_idxAddr rfl (isSl_enc _ _) rfl rfl rfl hy678 rfl rfl) ?_
              refine WO.step (v := (.int .u8 y678)) rfl rfl ?_
              obtain ⟨z679, hz679, h⟩ := bindS h
              refine WO.step (v := (.int .u8 z679)) rfl (stp_rem rfl rfl hz679) ?_
              refine WO.step (v := (.int .i64 (cv .i64 z679))) rfl rfl ?_
              refine WO.step (v := (.int .i64 (cv .i64 z679))) rfl rfl ?_
              refine WO.nil ?_
              refine KX.seq_n ?_
              obtain rfl := Option.some.inj h
              exact ⟨(known_cons rfl (known_cons rfl (known_cons rfl (known_cons rfl (known_cons rfl (known_cons rfl known_nil)))))), (H.sub (.cons_cons _ (.cons_cons _ (.cons_cons _ .slnil))) .slnil), rfl⟩
            · refine WC.condF rfl hc680 ?_
              refine WC.skip ?_
              refine KX.seq_n ?_
              obtain rfl := Option.some.inj h
              exact ⟨(known_cons rfl (known_cons rfl (known_cons rfl (known_cons rfl (known_cons rfl (known_cons rfl known_nil)))))), (H.sub (.cons_cons _ (.cons_cons _ (.cons_cons _ .slnil))) .slnil), rfl⟩
          · rintro σ S e ⟨hk, H, rfl⟩
            replace h := hOy677
            refine KX.of_known hk ?_
            refine KX.seq_n ?_
            refine WC.seqR ?_
            refine WO.step (v := (.int .i64 0)) rfl rfl ?_
            refine WO.nil ?_
            obtain ⟨y785, hy785, hOy785⟩ := bindS h
            refine WC.block ?_
            refine l5_L2 hi6 hi4 ?_ ?_ hy785  (known_cons rfl (known_cons rfl (known_cons rfl (known_cons rfl (known_cons rfl (known_cons rfl (known_cons rfl known_nil))))))) (H.sub (.cons _ (.cons_cons _ (.cons_cons _ .slnil))) .slnil)
            · intro y785r he σ S  hk H; subst he; replace h := hOy785; dsimp only at h
              refine KX.of_known hk ?_
              refine KX.block_r ?_
              refine KX.block_r ?_
              refine KX.seq_r ?_
              refine KX.seq_r ?_
              obtain rfl := Option.some.inj h
              exact hret _ rfl (known_cons rfl known_nil) (H.sub .slnil .slnil)
            · intro y785b he σ S  hk H; subst he; replace h := hOy785; dsimp only at h
              refine KX.of_known hk ?_
              refine KX.block_x ?_
              refine KX.block_n ?_
              refine KX.seq_n ?_
              refine WC.region ?_
              refine WO.step (v := (.int .i64 x528)) rfl rfl ?_
              refine WO.step (v := (.int .i64 (ad .i64 x528 1))) rfl rfl ?_
              refine WO.step (v := (.int .i64 (ad .i64 x528 1))) rfl rfl ?_
              refine WO.nil ?_
              refine KX.seq_n ?_
              exact ih h  (known_cons rfl (known_cons rfl (known_cons rfl (known_cons rfl (known_cons rfl known_nil))))) (H.sub (.cons_cons _ (.cons_cons _ .slnil)) .slnil)
    · refine WC.condF rfl hc788 ?_
      refine WC.exit ?_
      refine KX.seq_x ?_
      refine KX.seq_x ?_
      obtain rfl := Option.some.inj h
      exact hbrk _ rfl  (known_cons rfl (known_cons rfl (known_cons rfl known_nil))) (H.sub (.cons_cons _ (.cons_cons _ .slnil)) .slnil)
theorem s5 : ∀ k : Nat, ∀ {a0 : Sl Str} {a1 : Sl Int} {r : Bool}, F5 k a0 a1 = some r → ∀ {vs : List PV}, vs.map PV.strip = [(encSl eS a0), (encSl (eI .u8) a1)] → ∀ S : List SObj, evw env 5 vs S = some ((.bool r), S, false) := by
  intro k a0 a1 r h vs ha S
  unfold F5 at h
  refine evw_pureW (pf := fn5) rfl rfl ha (Nat.le_of_ble_eq_true rfl) (by simp [PV.clean, cleanL, clean_encSl (clean_eI .u8), clean_encSl clean_eS]) rfl ?_
  refine WB.of (pf := fn5) rfl ?_
  have H := Hp.start []
  refine WC.seqR ?_
  refine WO.step (v := (.bool false)) rfl rfl ?_
  refine WO.nil ?_
  refine WC.seq ?_
  refine WC.seqR ?_
  obtain ⟨y1, hy1, h⟩ := bindS h
  refine WO.step (v := (.bool y1)) rfl (stp_call (vs := []) rfl rfl (s9 _ hy1 rfl _)) ?_
  refine WO.step (v := (.bool (!y1))) rfl rfl ?_
  refine WO.nil ?_
  rcases iteS h with ⟨hc793, h⟩ | ⟨hc793, h⟩
  · refine WC.condT rfl hc793 ?_
    refine WC.seqR ?_
    refine WO.step (v := (.bool false)) rfl rfl ?_
    refine WO.nil ?_
    refine WC.ret ?_
    refine KX.seq_r ?_
    obtain rfl := Option.some.inj h
    refine KB.ret (vs := [(.bool false)]) (res_tmp rfl res_nil) ?_
    exact rfl
  · refine WC.condF rfl hc793 ?_
    refine WC.skip ?_
    refine KX.seq_n ?_
    refine WC.seq ?_
    refine WC.seqR ?_
    refine WO.step (v := (encSl eS a0)) rfl rfl ?_
    refine WO.step (v := (.int .i64 (Sl.len a0))) rfl (stp_len rfl (isSl_enc _ _) rfl) ?_
    refine WO.step (v := (.bool (decide ((Sl.len a0) > 40)))) rfl rfl ?_
    refine WO.nil ?_
    rcases iteS h with ⟨hc792, h⟩ | ⟨hc792, h⟩
    · refine WC.condT rfl hc792 ?_
      refine WC.seqR ?_
      refine WO.step (v := (.bool true)) rfl rfl ?_
      refine WO.nil ?_
      refine WC.ret ?_
      refine KX.seq_r ?_
      obtain rfl := Option.some.inj h
      refine KB.ret (vs := [(.bool true)]) (res_tmp rfl res_nil) ?_
      exact rfl
    · refine WC.condF rfl hc792 ?_
      refine WC.skip ?_
      refine KX.seq_n ?_
      refine WC.seqR ?_
      obtain ⟨y5, hy5, h⟩ := bindS h
      refine WO.callN rfl rfl rfl H (s11 _ hy5 _) ?_
      intro i4 S hi4 H
      refine WO.step (v := (.agg [(.str [])])) rfl (stp_build (ti := ty43) rfl rfl rfl rfl rfl rfl) ?_
      refine WO.box' rfl rfl rfl rfl H ?_
      intro i6 S hi6 H
      refine WO.step (v := (.ptr i4 0)) rfl rfl ?_
      refine WO.step (v := (.ptr i6 0)) rfl rfl ?_
      refine WO.nil ?_
      refine WC.seq ?_
      refine WC.seqR ?_
      refine WO.step (v := (.int .i64 0)) rfl rfl ?_
      refine WO.nil ?_
      obtain ⟨y789, hy789, hOy789⟩ := bindS h
      refine WC.block ?_
      refine l5_L0 hi6 hi4 ?_ ?_ hy789  (known_cons rfl (known_cons rfl (known_cons rfl (known_cons rfl (known_cons rfl known_nil))))) (H.sub (.cons_cons _ (.cons_cons _ .slnil)) .slnil)
      · intro y789r he σ S  hk H; subst he; replace h := hOy789; dsimp only at h
        refine KX.of_known hk ?_
        refine KX.block_r ?_
        refine KX.seq_r ?_
        obtain rfl := Option.some.inj h
        refine KB.ret (vs := [(.bool y789r)]) (res_tmp rfl res_nil) ?_
        exact rfl
      · intro y789b he σ S  hk H; subst he; replace h := hOy789; dsimp only at h
        refine KX.of_known hk ?_
        refine KX.block_x ?_
        refine KX.seq_n ?_
        refine WC.seq ?_
        refine WC.drawC ?_
        refine WK.step (v := (.ptr i4 0)) rfl rfl rfl rfl rfl rfl ?_
        obtain ⟨y790, hy790, h⟩ := bindS h
        have Hh791 := H
        refine WK.callR 1 rfl rfl rfl H rfl (s14 _ hy790 (H.get 1 rfl)) ?_
        intro S H
        replace H : Hp [] [] _ [(i6, [(.str y789b.2.1.B)]), (i4, [(.str y790.1.s_)])] [] := H
        refine ⟨pend_nil, ?_⟩
        refine WK.step (v := (.ptr i6 0)) rfl rfl rfl rfl rfl rfl ?_
        refine WK.step (v := (.ptr i6 0)) rfl rfl rfl rfl rfl rfl ?_
        refine WK.step (v := (.ptr i6 0)) rfl rfl rfl rfl rfl rfl ?_
        refine WK.load rfl rfl (ld (H.get 0 rfl) rfl) (hist_cons (ld (Hh791.get 0 rfl) rfl) hist_nil) ?_
        refine WK.step (v := (.int .i64 (Str.len y789b.2.1.B))) rfl rfl rfl rfl rfl rfl ?_
        refine WK.nil ?_
        refine WO.step (v := (.bool (y790.2 == (Str.len y789b.2.1.B)))) rfl rfl ?_
        refine WO.step (v := (.bool (y790.2 == (Str.len y789b.2.1.B)))) rfl rfl ?_
        refine WO.nil ?_
        refine KX.seq_n ?_
        refine WC.ret ?_
        obtain rfl := Option.some.inj h
        refine KB.ret (vs := [(.bool (y790.2 == (Str.len y789b.2.1.B)))]) (res_tmp rfl res_nil) ?_
        exact rfl
-- 20 prefect/vector.New
def F20_L0 (k : Nat) (a30 : Int) : Nat → (Sl Api_CSN) → Int → Option ((Sl Api_CSN) × Int)
  | 0, _, _ => none
  | n + 1, x28, x31 =>
    if decide (x31 < a30) then
    Option.bind (Sl.app? 24 x28 (Sl.l (some [(Api_CSN.mk 0 0 x31)]))) fun z37 =>
    F20_L0 k a30 n z37 (ad .i64 x31 1)
    else
    some (x28, x31)
/-- prefect/vector.New -/
def F20 (k : Nat) (a0 : Int) : Option (Sl Api_CSN) :=
  Option.bind (F20_L0 k (imin (imax a0 0) 6) k none 0) fun y41 =>
  some y41.1
theorem l20_L0 {k : Nat} {a30 : Int} {S0 : List SObj} {R : List Nat} {K : KX}  {o : ((Sl Api_CSN) × Int)}
    (hbrk : ∀ {σ' : Nat → PV} {S' : List SObj}, ∀ (v40 : PV) (_ : IsSl e_Api_CSN o.1 v40), Known [(3, v40), (8, (.int .i64 o.2))] σ' → Hp S0 R S' [] [(v40, 3)] → K (.exit 0) σ' S' false) :
    ∀ {n : Nat} {x28 : Sl Api_CSN} {x31 : Int}, F20_L0 k a30 n x28 x31 = some o → ∀ {σ : Nat → PV} {S : List SObj}, ∀ (v29 : PV) (_ : IsSl e_Api_CSN x28 v29), Known [(3, v29), (7, (.int .i64 a30)), (8, (.int .i64 x31))] σ → Hp S0 R S [] [(v29, 3)] → WC env ⟨18, S0.length⟩ (.loop pc20L0) σ S false K := by
  intro n
  induction n with
  | zero => intro _ _ h; cases h
  | succ n ih =>
    intro x28 x31 h σ S v29 hv29 hk H
    rw [F20_L0] at h
    refine WC.loop ?_
    refine WC.of_known hk ?_
    refine WC.seqR ?_
    refine WO.step (v := (.bool (decide (x31 < a30)))) rfl rfl ?_
    refine WO.nil ?_
    refine WC.seq ?_
    rcases iteS h with ⟨hc39, h⟩ | ⟨hc39, h⟩
    · refine WC.condT rfl hc39 ?_
      refine WC.skip ?_
      refine KX.seq_n ?_
      refine WC.seq ?_
      refine WC.block ?_
      refine WC.seqR ?_
      refine WO.step (v := (.int .i64 x31)) rfl rfl ?_
      refine WO.step (v := (.int .i64 x31)) rfl rfl ?_
      refine WO.nil ?_
      refine WC.region ?_
      refine WO.step (v := v29) rfl rfl ?_
      refine WO.step (v := (.int .i64 x31)) rfl rfl ?_
      refine WO.step (v := (.agg [(.int .i64 0), (.int .i64 0), (.int .i64 x31)])) rfl (stp_build (ti := ty50) rfl rfl rfl rfl rfl (fill_cons rfl rfl rfl rfl (Nat.le_of_ble_eq_true rfl) rfl rfl)) ?_
      refine WO.step rfl (stp_buildSlice (ys := [(Api_CSN.mk 0 0 x31)]) (f := e_Api_CSN) (parts := [(0, (.agg [(.int .i64 0), (.int .i64 0), (.int .i64 x31)]))]) rfl rfl rfl rfl rfl rfl (fc ⟨rfl, rfl⟩ (fun p hp => nomatch hp)) rfl) ?_
      have hv36 : IsSl e_Api_CSN (some [(Api_CSN.mk 0 0 x31)]) _ := ⟨.full, rfl⟩
      obtain ⟨z37, hz37, h⟩ := bindS h
      refine WO.ex rfl (stp_app (f := e_Api_CSN) (ei := ty50) H 0 rfl rfl hv29 rfl hv36 rfl rfl rfl rfl (fun a => (e_Api_CSN_one a).2.1) hz37) ?_
      rintro v38 S ⟨hv38, H⟩
      replace H : Hp S0 R _ [] [(v38, 3)] := H
      refine WO.step (v := v38) rfl rfl ?_
      refine WO.nil ?_
      refine KX.block_n ?_
      refine KX.seq_n ?_
      refine WC.region ?_
      refine WO.step (v := (.int .i64 (ad .i64 x31 1))) rfl rfl ?_
      refine WO.step (v := (.int .i64 (ad .i64 x31 1))) rfl rfl ?_
      refine WO.nil ?_
      refine KX.seq_n ?_
      exact ih h v38 (hv38) (known_cons rfl (known_cons rfl (known_cons rfl known_nil))) (H.sub .slnil (.cons_cons _ .slnil))
    · refine WC.condF rfl hc39 ?_
      refine WC.exit ?_
      refine KX.seq_x ?_
      refine KX.seq_x ?_
      obtain rfl := Option.some.inj h
      exact hbrk v29 (hv29) (known_cons rfl (known_cons rfl known_nil)) (H.sub .slnil (.cons_cons _ .slnil))
theorem s20 : ∀ k : Nat, ∀ {a0 : Int} {r : (Sl Api_CSN)}, F20 k a0 = some r → ∀ {vs : List PV}, vs.map PV.strip = [(.int .i64 a0)] → ∀ S : List SObj, evw env 20 vs S = some ((encSl e_Api_CSN r), S, false) := by
  intro k a0 r h vs ha S
  unfold F20 at h
  refine evw_pureW (pf := fn20) rfl rfl ha (Nat.le_of_ble_eq_true rfl) rfl (by simp [PV.clean, cleanL, clean_encSl clean_Api_CSN]) ?_
  refine WB.of (pf := fn20) rfl ?_
  have H := Hp.start []
  refine WC.seqR ?_
  refine WO.step (v := .nils) rfl rfl ?_
  refine WO.nil ?_
  refine WC.seqR ?_
  refine WO.step (v := .nils) rfl rfl ?_
  refine WO.nil ?_
  refine WC.seq ?_
  refine WC.seqR ?_
  refine WO.step (v := (.int .i64 a0)) rfl rfl ?_
  refine WO.step (v := (.int .i64 (imax a0 0))) rfl rfl ?_
  refine WO.step (v := (.int .i64 (imin (imax a0 0) 6))) rfl rfl ?_
  refine WO.step (v := (.int .i64 0)) rfl rfl ?_
  refine WO.nil ?_
  obtain ⟨y41, hy41, hOy41⟩ := bindS h
  refine WC.block ?_
  have H := H.addNil 3
  refine l20_L0 ?_ hy41 .nils ((isSl_nil _)) (known_cons rfl (known_cons rfl (known_cons rfl known_nil))) (H.sub .slnil (.cons_cons _ .slnil))
  · intro σ S v42 hv42 hk H; replace h := hOy41
    refine KX.of_known hk ?_
    refine KX.block_x ?_
    refine KX.seq_n ?_
    refine WC.seqR ?_
    refine WO.step (v := v42) rfl rfl ?_
    refine WO.step (v := v42) rfl rfl ?_
    refine WO.nil ?_
    refine WC.ret ?_
    obtain rfl := Option.some.inj h
    refine KB.ret (vs := [v42]) (res_tmp rfl res_nil) ?_
    exact (by simp only [st_tup, List.map_cons, List.map_nil, tupled, hv42.strip])
-- 44 prefect/csn.Is
/-- prefect/csn.Is -/
def F44 (k : Nat) (a0 : Api_CSN) : Option Bool :=
  some ((((((decide (a0.Time ≥ 0)) && (decide (a0.Time ≤ 1099511627776))) && (decide (a0.Seq ≥ 0))) && (decide (a0.Seq ≤ 65535))) && (decide (a0.Rep ≥ 0))) && (decide (a0.Rep < 6)))
theorem s44 : ∀ k : Nat, ∀ {a0 : Api_CSN} {r : Bool}, F44 k a0 = some r → ∀ {vs : List PV}, vs.map PV.strip = [(.agg [(.int .i64 a0.Time), (.int .i64 a0.Seq), (.int .i64 a0.Rep)])] → ∀ S : List SObj, evw env 44 vs S = some ((.bool r), S, false) := by
  intro k a0 r h vs ha S
  unfold F44 at h
  refine evw_pureW (pf := fn44) rfl rfl ha (Nat.le_of_ble_eq_true rfl) rfl rfl ?_
  refine WB.of (pf := fn44) rfl ?_
  have H := Hp.start []
  refine WC.seqR ?_
  refine WO.box' rfl rfl rfl rfl H ?_
  intro i1 S hi1 H
  refine WO.step (v := (.bool false)) rfl rfl ?_
  refine WO.nil ?_
  refine WC.seqR ?_
  refine WO.step (v := (.ptr i1 0)) rfl rfl ?_
  refine WO.step (v := (.int .i64 a0.Time)) rfl (stp_load rfl (H.get 0 rfl) rfl) ?_
  refine WO.step (v := (.bool (decide (a0.Time ≥ 0)))) rfl rfl ?_
  refine WO.step (v := (.bool (decide (a0.Time ≥ 0)))) rfl rfl ?_
  refine WO.split 4 (fun σ' S' e' => Known ([(1, (.ptr i1 0)), (10, (.bool ((decide (a0.Time ≥ 0)) && (decide (a0.Time ≤ 1099511627776)))))]) σ' ∧ Hp [] [] S' [(i1, [(.int .i64 a0.Time), (.int .i64 a0.Seq), (.int .i64 a0.Rep)])] [] ∧ e' = false) ?_ ?_
  · cases hc2 : (decide (a0.Time ≥ 0))
    · skip
      refine WO.by rfl rfl rfl ?_
      refine WO.by rfl rfl rfl ?_
      refine WO.by rfl rfl rfl ?_
      refine WO.step (v := (.bool false)) rfl rfl ?_
      refine WO.nil ?_
      exact ⟨(known_cons rfl (known_cons rfl known_nil)), H, rfl⟩
    · skip
      refine WO.go0 rfl rfl ?_
      refine WO.step (v := (.ptr i1 0)) rfl rfl ?_
      refine WO.go0 rfl rfl ?_
      refine WO.step (v := (.int .i64 a0.Time)) rfl (stp_load rfl (H.get 0 rfl) rfl) ?_
      refine WO.go0 rfl rfl ?_
      refine WO.step (v := (.bool (decide (a0.Time ≤ 1099511627776)))) rfl rfl ?_
      refine WO.step (v := (.bool (decide (a0.Time ≤ 1099511627776)))) rfl rfl ?_
      refine WO.nil ?_
      exact ⟨(known_cons rfl (known_cons rfl known_nil)), H, rfl⟩
  · rintro σ S e ⟨hk, H, rfl⟩
    refine WO.of_known hk ?_
    refine WO.step (v := (.bool ((decide (a0.Time ≥ 0)) && (decide (a0.Time ≤ 1099511627776))))) rfl rfl ?_
    refine WO.split 4 (fun σ' S' e' => Known ([(1, (.ptr i1 0)), (15, (.bool (((decide (a0.Time ≥ 0)) && (decide (a0.Time ≤ 1099511627776))) && (decide (a0.Seq ≥ 0)))))]) σ' ∧ Hp [] [] S' [(i1, [(.int .i64 a0.Time), (.int .i64 a0.Seq), (.int .i64 a0.Rep)])] [] ∧ e' = false) ?_ ?_
    · cases hc3 : ((decide (a0.Time ≥ 0)) && (decide (a0.Time ≤ 1099511627776)))
      · skip
        refine WO.by rfl rfl rfl ?_
        refine WO.by rfl rfl rfl ?_
        refine WO.by rfl rfl rfl ?_
        refine WO.step (v := (.bool false)) rfl rfl ?_
        refine WO.nil ?_
        exact ⟨(known_cons rfl (known_cons rfl known_nil)), H, rfl⟩
      · skip
        refine WO.go0 rfl rfl ?_
        refine WO.step (v := (.ptr i1 1)) rfl rfl ?_
        refine WO.go0 rfl rfl ?_
        refine WO.step (v := (.int .i64 a0.Seq)) rfl (stp_load rfl (H.get 0 rfl) rfl) ?_
        refine WO.go0 rfl rfl ?_
        refine WO.step (v := (.bool (decide (a0.Seq ≥ 0)))) rfl rfl ?_
        refine WO.step (v := (.bool (decide (a0.Seq ≥ 0)))) rfl rfl ?_
        refine WO.nil ?_
        exact ⟨(known_cons rfl (known_cons rfl known_nil)), H, rfl⟩
    · rintro σ S e ⟨hk, H, rfl⟩
      refine WO.of_known hk ?_
      refine WO.step (v := (.bool (((decide (a0.Time ≥ 0)) && (decide (a0.Time ≤ 1099511627776))) && (decide (a0.Seq ≥ 0))))) rfl rfl ?_
      refine WO.split 4 (fun σ' S' e' => Known ([(1, (.ptr i1 0)), (20, (.bool ((((decide (a0.Time ≥ 0)) && (decide (a0.Time ≤ 1099511627776))) && (decide (a0.Seq ≥ 0))) && (decide (a0.Seq ≤ 65535)))))]) σ' ∧ Hp [] [] S' [(i1, [(.int .i64 a0.Time), (.int .i64 a0.Seq), (.int .i64 a0.Rep)])] [] ∧ e' = false) ?_ ?_
      · cases hc4 : (((decide (a0.Time ≥ 0)) && (decide (a0.Time ≤ 1099511627776))) && (decide (a0.Seq ≥ 0)))
        · skip
          refine WO.by rfl rfl rfl ?_
          refine WO.by rfl rfl rfl ?_
          refine WO.by rfl rfl rfl ?_
          refine WO.step (v := (.bool false)) rfl rfl ?_
          refine WO.nil ?_
          exact ⟨(known_cons rfl (known_cons rfl known_nil)), H, rfl⟩
        · skip
          refine WO.go0 rfl rfl ?_
          refine WO.step (v := (.ptr i1 1)) rfl rfl ?_
          refine WO.go0 rfl rfl ?_
          refine WO.step (v := (.int .i64 a0.Seq)) rfl (stp_load rfl (H.get 0 rfl) rfl) ?_
          refine WO.go0 rfl rfl ?_
          refine WO.step (v := (.bool (decide (a0.Seq ≤ 65535)))) rfl rfl ?_
          refine WO.step (v := (.bool (decide (a0.Seq ≤ 65535)))) rfl rfl ?_
          refine WO.nil ?_
          exact ⟨(known_cons rfl (known_cons rfl known_nil)), H, rfl⟩
      · rintro σ S e ⟨hk, H, rfl⟩
        refine WO.of_known hk ?_
        refine WO.step (v := (.bool ((((decide (a0.Time ≥ 0)) && (decide (a0.Time ≤ 1099511627776))) && (decide (a0.Seq ≥ 0))) && (decide (a0.Seq ≤ 65535))))) rfl rfl ?_
        refine WO.split 4 (fun σ' S' e' => Known ([(1, (.ptr i1 0)), (25, (.bool (((((decide (a0.Time ≥ 0)) && (decide (a0.Time ≤ 1099511627776))) && (decide (a0.Seq ≥ 0))) && (decide (a0.Seq ≤ 65535))) && (decide (a0.Rep ≥ 0)))))]) σ' ∧ Hp [] [] S' [(i1, [(.int .i64 a0.Time), (.int .i64 a0.Seq), (.int .i64 a0.Rep)])] [] ∧ e' = false) ?_ ?_
        · cases hc5 : ((((decide (a0.Time ≥ 0)) && (decide (a0.Time ≤ 1099511627776))) && (decide (a0.Seq ≥ 0))) && (decide (a0.Seq ≤ 65535)))
          · skip
            refine WO.by rfl rfl rfl ?_
            refine WO.by rfl rfl rfl ?_
            refine WO.by rfl rfl rfl ?_
            refine WO.step (v := (.bool false)) rfl rfl ?_
            refine WO.nil ?_
            exact ⟨(known_cons rfl (known_cons rfl known_nil)), H, rfl⟩
          · skip
            refine WO.go0 rfl rfl ?_
            refine WO.step (v := (.ptr i1 2)) rfl rfl ?_
            refine WO.go0 rfl rfl ?_
            refine WO.step (v := (.int .i64 a0.Rep)) rfl (stp_load rfl (H.get 0 rfl) rfl) ?_
            refine WO.go0 rfl rfl ?_
            refine WO.step (v := (.bool (decide (a0.Rep ≥ 0)))) rfl rfl ?_
            refine WO.step (v := (.bool (decide (a0.Rep ≥ 0)))) rfl rfl ?_
            refine WO.nil ?_
            exact ⟨(known_cons rfl (known_cons rfl known_nil)), H, rfl⟩
        · rintro σ S e ⟨hk, H, rfl⟩
          refine WO.of_known hk ?_
          refine WO.step (v := (.bool (((((decide (a0.Time ≥ 0)) && (decide (a0.Time ≤ 1099511627776))) && (decide (a0.Seq ≥ 0))) && (decide (a0.Seq ≤ 65535))) && (decide (a0.Rep ≥ 0))))) rfl rfl ?_
          refine WO.split 4 (fun σ' S' e' => Known ([(30, (.bool ((((((decide (a0.Time ≥ 0)) && (decide (a0.Time ≤ 1099511627776))) && (decide (a0.Seq ≥ 0))) && (decide (a0.Seq ≤ 65535))) && (decide (a0.Rep ≥ 0))) && (decide (a0.Rep < 6)))))]) σ' ∧ Hp [] [] S' [(i1, [(.int .i64 a0.Time), (.int .i64 a0.Seq), (.int .i64 a0.Rep)])] [] ∧ e' = false) ?_ ?_
          · cases hc6 : (((((decide (a0.Time ≥ 0)) && (decide (a0.Time ≤ 1099511627776))) && (decide (a0.Seq ≥ 0))) && (decide (a0.Seq ≤ 65535))) && (decide (a0.Rep ≥ 0)))
            · skip
              refine WO.by rfl rfl rfl ?_
              refine WO.by rfl rfl rfl ?_
              refine WO.by rfl rfl rfl ?_
              refine WO.step (v := (.bool false)) rfl rfl ?_
              refine WO.nil ?_
              exact ⟨(known_cons rfl known_nil), H, rfl⟩
            · skip
              refine WO.go0 rfl rfl ?_
              refine WO.step (v := (.ptr i1 2)) rfl rfl ?_
              refine WO.go0 rfl rfl ?_
              refine WO.step (v := (.int .i64 a0.Rep)) rfl (stp_load rfl (H.get 0 rfl) rfl) ?_
              refine WO.go0 rfl rfl ?_
              refine WO.step (v := (.bool (decide (a0.Rep < 6)))) rfl rfl ?_
              refine WO.step (v := (.bool (decide (a0.Rep < 6)))) rfl rfl ?_
              refine WO.nil ?_
              exact ⟨(known_cons rfl known_nil), H, rfl⟩
          · rintro σ S e ⟨hk, H, rfl⟩
            refine WO.of_known hk ?_
            refine WO.step (v := (.bool ((((((decide (a0.Time ≥ 0)) && (decide (a0.Time ≤ 1099511627776))) && (decide (a0.Seq ≥ 0))) && (decide (a0.Seq ≤ 65535))) && (decide (a0.Rep ≥ 0))) && (decide (a0.Rep < 6))))) rfl rfl ?_
            refine WO.nil ?_
            refine WC.ret ?_
            obtain rfl := Option.some.inj h
            refine KB.ret (vs := [(.bool ((((((decide (a0.Time ≥ 0)) && (decide (a0.Time ≤ 1099511627776))) && (decide (a0.Seq ≥ 0))) && (decide (a0.Seq ≤ 65535))) && (decide (a0.Rep ≥ 0))) && (decide (a0.Rep < 6))))]) (res_tmp rfl res_nil) ?_
            exact rfl
-- 22 prefect/vector.Is
def F22_L0 (k : Nat) (a58 : Sl Api_CSN) (a59 : Int) : Nat → Int → Option (Out Bool Int)
  | 0, _ => none
  | n + 1, x60 =>
    if decide (x60 < a59) then
    Option.bind (Sl.at? a58 x60) fun y74 =>
    Option.bind (if (decide (x60 ≥ 6)) || (y74.Rep != x60) then
    some true
    else
    Option.bind (F44 k y74) fun y82 =>
    some (!y82)) fun y81 =>
    if y81 then
    some (Out.ret false)
    else
    F22_L0 k a58 a59 n (ad .i64 x60 1)
    else
    some (Out.brk x60)
/-- prefect/vector.Is -/
def F22 (k : Nat) (a0 : Sl Api_CSN) : Option Bool :=
  Option.bind (F22_L0 k a0 (Sl.len a0) k 0) fun y87 =>
  match y87 with
  | .ret y87r => some y87r
  | .brk y87b =>
  some true
theorem l22_L0 {k : Nat} {a58 : Sl Api_CSN} {a59 : Int} {S0 : List SObj} {R : List Nat} {K : KX}  {o : Out Bool Int}
    (hret : ∀ r : Bool, o = .ret r → ∀ {σ' : Nat → PV} {S' : List SObj}, Known [(2, (.bool r))] σ' → Hp S0 R S' [] [] → K .ret σ' S' false)
    (hbrk : ∀ y : Int, o = .brk y → ∀ {σ' : Nat → PV} {S' : List SObj}, Known [(7, (.int .i64 y))] σ' → Hp S0 R S' [] [] → K (.exit 0) σ' S' false) :
    ∀ {n : Nat} {x60 : Int}, F22_L0 k a58 a59 n x60 = some o → ∀ {σ : Nat → PV} {S : List SObj}, Known [(5, (encSl e_Api_CSN a58)), (6, (.int .i64 a59)), (7, (.int .i64 x60))] σ → Hp S0 R S [] [] → WC env ⟨26, S0.length⟩ (.loop pc22L0) σ S false K := by
  intro n
  induction n with
  | zero => intro _ h; cases h
  | succ n ih =>
    intro x60 h σ S  hk H
    rw [F22_L0] at h
    refine WC.loop ?_
    refine WC.of_known hk ?_
    refine WC.seqR ?_
    refine WO.step (v := (.bool (decide (x60 < a59)))) rfl rfl ?_
    refine WO.nil ?_
    refine WC.seq ?_
    rcases iteS h with ⟨hc86, h⟩ | ⟨hc86, h⟩
    · refine WC.condT rfl hc86 ?_
      refine WC.skip ?_
      refine KX.seq_n ?_
      refine WC.seq ?_
      refine WC.block ?_
      refine WC.seqR ?_
      refine WO.step (v := (.int .i64 x60)) rfl rfl ?_
      obtain ⟨y74, hy74, h⟩ := bindS h
      refine WO.step (v := (.iptr [(.int .i64 y74.Time), (.int .i64 y74.Seq), (.int .i64 y74.Rep)] 0)) rfl (stp_idxAddr rfl (isSl_enc _ _) rfl rfl rfl hy74 (e_Api_CSN_cells _) rfl) ?_
      refine WO.step (v := (.agg [(.int .i64 y74.Time), (.int .i64 y74.Seq), (.int .i64 y74.Rep)])) rfl rfl ?_
      refine WO.alloc' (ti := ty50) rfl rfl rfl rfl H ?_
      intro i75 S hi75 H
      refine WO.step (v := (.int .i64 x60)) rfl rfl ?_
      refine WO.store 0 rfl H rfl rfl rfl rfl rfl rfl rfl (Nat.le_of_ble_eq_true rfl) rfl (own_e hi75) ?_
      intro S H
      replace H : Hp S0 R _ [(i75, [(.int .i64 y74.Time), (.int .i64 y74.Seq), (.int .i64 y74.Rep)])] [] := H
      refine WO.nil ?_
      refine WC.seqR ?_
      refine WO.step (v := (.int .i64 x60)) rfl rfl ?_
      refine WO.step (v := (.bool (decide (x60 ≥ 6)))) rfl rfl ?_
      refine WO.step (v := (.bool (decide (x60 ≥ 6)))) rfl rfl ?_
      refine WO.split 5 (fun σ' S' e' => Known ([(4, (.ptr i75 0)), (5, (encSl e_Api_CSN a58)), (6, (.int .i64 a59)), (7, (.int .i64 x60)), (19, (.bool ((decide (x60 ≥ 6)) || (y74.Rep != x60))))]) σ' ∧ Hp S0 R S' [(i75, [(.int .i64 y74.Time), (.int .i64 y74.Seq), (.int .i64 y74.Rep)])] [] ∧ e' = false) ?_ ?_
      · cases hc76 : (decide (x60 ≥ 6))
        · skip
          refine WO.go0 rfl rfl ?_
          refine WO.step (v := (.ptr i75 2)) rfl rfl ?_
          refine WO.go0 rfl rfl ?_
          refine WO.step (v := (.int .i64 y74.Rep)) rfl (stp_load rfl (H.get 0 rfl) rfl) ?_
          refine WO.go0 rfl rfl ?_
          refine WO.step (v := (.int .i64 x60)) rfl rfl ?_
          refine WO.go0 rfl rfl ?_
          refine WO.step (v := (.bool (y74.Rep != x60))) rfl rfl ?_
          refine WO.step (v := (.bool (y74.Rep != x60))) rfl rfl ?_
          refine WO.nil ?_
          exact ⟨(known_cons rfl (known_cons rfl (known_cons rfl (known_cons rfl (known_cons rfl known_nil))))), H, rfl⟩
        · skip
          refine WO.by rfl rfl rfl ?_
          refine WO.by rfl rfl rfl ?_
          refine WO.by rfl rfl rfl ?_
          refine WO.by rfl rfl rfl ?_
          refine WO.step (v := (.bool true)) rfl rfl ?_
          refine WO.nil ?_
          exact ⟨(known_cons rfl (known_cons rfl (known_cons rfl (known_cons rfl (known_cons rfl known_nil))))), H, rfl⟩
      · rintro σ S e ⟨hk, H, rfl⟩
        refine WO.of_known hk ?_
        refine WO.step (v := (.bool ((decide (x60 ≥ 6)) || (y74.Rep != x60)))) rfl rfl ?_
        obtain ⟨y81, hy81, hOy81⟩ := bindS h
        refine WO.split 4 (fun σ' S' e' => Known ([(5, (encSl e_Api_CSN a58)), (6, (.int .i64 a59)), (7, (.int .i64 x60)), (24, (.bool y81))]) σ' ∧ Hp S0 R S' [(i75, [(.int .i64 y74.Time), (.int .i64 y74.Seq), (.int .i64 y74.Rep)])] [] ∧ e' = false) ?_ ?_
        · replace h := hy81
          cases hc83 : ((decide (x60 ≥ 6)) || (y74.Rep != x60))
          · replace h := iteF h hc83
            refine WO.go0 rfl rfl ?_
            refine WO.step (v := (.agg [(.int .i64 y74.Time), (.int .i64 y74.Seq), (.int .i64 y74.Rep)])) rfl (stp_load rfl (H.get 0 rfl) rfl) ?_
            refine WO.go0 rfl rfl ?_
            obtain ⟨y82, hy82, h⟩ := bindS h
            refine WO.step (v := (.bool y82)) rfl (stp_call (vs := [(.agg [(.int .i64 y74.Time), (.int .i64 y74.Seq), (.int .i64 y74.Rep)])]) rfl rfl (s44 _ hy82 rfl _)) ?_
            refine WO.go0 rfl rfl ?_
            refine WO.step (v := (.bool (!y82))) rfl rfl ?_
            refine WO.step (v := (.bool (!y82))) rfl rfl ?_
            refine WO.nil ?_
            obtain rfl := Option.some.inj h
            exact ⟨(known_cons rfl (known_cons rfl (known_cons rfl (known_cons rfl known_nil)))), (H.sub (.cons_cons _ .slnil) .slnil), rfl⟩
          · replace h := iteT h hc83
            refine WO.by rfl rfl rfl ?_
            refine WO.by rfl rfl rfl ?_
            refine WO.by rfl rfl rfl ?_
            refine WO.step (v := (.bool true)) rfl rfl ?_
            refine WO.nil ?_
            obtain rfl := Option.some.inj h
            exact ⟨(known_cons rfl (known_cons rfl (known_cons rfl (known_cons rfl known_nil)))), (H.sub (.cons_cons _ .slnil) .slnil), rfl⟩
        · rintro σ S e ⟨hk, H, rfl⟩
          replace h := hOy81
          refine WO.of_known hk ?_
          refine WO.nil ?_
          rcases iteS h with ⟨hc85, h⟩ | ⟨hc85, h⟩
          · refine WC.condT rfl hc85 ?_
            refine WC.seqR ?_
            refine WO.step (v := (.bool false)) rfl rfl ?_
            refine WO.nil ?_
            refine WC.ret ?_
            refine KX.block_r ?_
            refine KX.seq_r ?_
            refine KX.seq_r ?_
            obtain rfl := Option.some.inj h
            exact hret _ rfl (known_cons rfl known_nil) (H.sub (.cons _ .slnil) .slnil)
          · refine WC.condF rfl hc85 ?_
            refine WC.skip ?_
            refine KX.block_n ?_
            refine KX.seq_n ?_
            refine WC.region ?_
            refine WO.step (v := (.int .i64 (ad .i64 x60 1))) rfl rfl ?_
            refine WO.step (v := (.int .i64 (ad .i64 x60 1))) rfl rfl ?_
            refine WO.nil ?_
            refine KX.seq_n ?_
            exact ih h  (known_cons rfl (known_cons rfl (known_cons rfl known_nil))) (H.sub (.cons _ .slnil) .slnil)
    · refine WC.condF rfl hc86 ?_
      refine WC.exit ?_
      refine KX.seq_x ?_
      refine KX.seq_x ?_
      obtain rfl := Option.some.inj h
      exact hbrk _ rfl  (known_cons rfl known_nil) (H.sub .slnil .slnil)
theorem s22 : ∀ k : Nat, ∀ {a0 : Sl Api_CSN} {r : Bool}, F22 k a0 = some r → ∀ {vs : List PV}, vs.map PV.strip = [(encSl e_Api_CSN a0)] → ∀ S : List SObj, evw env 22 vs S = some ((.bool r), S, false) := by
  intro k a0 r h vs ha S
  unfold F22 at h
  refine evw_pureW (pf := fn22) rfl rfl ha (Nat.le_of_ble_eq_true rfl) (by simp [PV.clean, cleanL, clean_encSl clean_Api_CSN]) rfl ?_
  refine WB.of (pf := fn22) rfl ?_
  have H := Hp.start []
  refine WC.seqR ?_
  refine WO.step (v := (.bool false)) rfl rfl ?_
  refine WO.nil ?_
  refine WC.seq ?_
  refine WC.seqR ?_
  refine WO.step (v := (encSl e_Api_CSN a0)) rfl rfl ?_
  refine WO.step (v := (.int .i64 (Sl.len a0))) rfl (stp_len rfl (isSl_enc _ _) rfl) ?_
  refine WO.step (v := (.int .i64 0)) rfl rfl ?_
  refine WO.nil ?_
  obtain ⟨y87, hy87, hOy87⟩ := bindS h
  refine WC.block ?_
  refine l22_L0 ?_ ?_ hy87  (known_cons rfl (known_cons rfl (known_cons rfl known_nil))) (H.sub .slnil .slnil)
  · intro y87r he σ S  hk H; subst he; replace h := hOy87; dsimp only at h
    refine KX.of_known hk ?_
    refine KX.block_r ?_
    refine KX.seq_r ?_
    obtain rfl := Option.some.inj h
    refine KB.ret (vs := [(.bool y87r)]) (res_tmp rfl res_nil) ?_
    exact rfl
  · intro y87b he σ S  hk H; subst he; replace h := hOy87; dsimp only at h
    refine KX.of_known hk ?_
    refine KX.block_x ?_
    refine KX.seq_n ?_
    refine WC.seqR ?_
    refine WO.step (v := (.bool true)) rfl rfl ?_
    refine WO.nil ?_
    refine WC.ret ?_
    obtain rfl := Option.some.inj h
    refine KB.ret (vs := [(.bool true)]) (res_tmp rfl res_nil) ?_
    exact rfl
-- 47 prefect/vector.of
/-- prefect/vector.of -/
def F47 (k : Nat) (a0 : Sl Api_CSN) : Option (Sl Api_CSN) :=
  Option.bind (F22 k a0) fun y1 =>
  if !y1 then
  some none
  else
  some a0
theorem s47 : ∀ k : Nat, ∀ {a0 : Sl Api_CSN} {r : (Sl Api_CSN)}, F47 k a0 = some r → ∀ {vs : List PV}, vs.map PV.strip = [(encSl e_Api_CSN a0)] → ∀ S : List SObj, evw env 47 vs S = some ((encSl e_Api_CSN r), S, false) := by
  intro k a0 r h vs ha S
  unfold F47 at h
  refine evw_pureW (pf := fn47) rfl rfl ha (Nat.le_of_ble_eq_true rfl) (by simp [PV.clean, cleanL, clean_encSl clean_Api_CSN]) (by simp [PV.clean, cleanL, clean_encSl clean_Api_CSN]) ?_
  refine WB.of (pf := fn47) rfl ?_
  have H := Hp.start []
  refine WC.seqR ?_
  refine WO.step (v := .nils) rfl rfl ?_
  refine WO.nil ?_
  refine WC.seq ?_
  refine WC.seqR ?_
  refine WO.step (v := (encSl e_Api_CSN a0)) rfl rfl ?_
  obtain ⟨y1, hy1, h⟩ := bindS h
  refine WO.step (v := (.bool y1)) rfl (stp_call (vs := [(encSl e_Api_CSN a0)]) rfl rfl (s22 _ hy1 (by simp only [strip_enc, List.map_cons, List.map_nil, tupled]) _)) ?_
  refine WO.step (v := (.bool (!y1))) rfl rfl ?_
  refine WO.nil ?_
  rcases iteS h with ⟨hc3, h⟩ | ⟨hc3, h⟩
  · refine WC.condT rfl hc3 ?_
    refine WC.seqR ?_
    refine WO.step (v := .nils) rfl rfl ?_
    refine WO.nil ?_
    refine WC.ret ?_
    refine KX.seq_r ?_
    obtain rfl := Option.some.inj h
    refine KB.ret (vs := [.nils]) (res_tmp rfl res_nil) ?_
    exact (by simp only [st_tup, List.map_cons, List.map_nil, tupled, st_nils, encSl_none])
  · refine WC.condF rfl hc3 ?_
    refine WC.skip ?_
    refine KX.seq_n ?_
    refine WC.seqR ?_
    refine WO.step (v := (encSl e_Api_CSN a0)) rfl rfl ?_
    refine WO.step (v := (encSl e_Api_CSN a0)) rfl rfl ?_
    refine WO.nil ?_
    refine WC.ret ?_
    obtain rfl := Option.some.inj h
    refine KB.ret (vs := [(encSl e_Api_CSN a0)]) (res_tmp rfl res_nil) ?_
    exact (by simp only [st_tup, List.map_cons, List.map_nil, tupled, strip_enc])
-- 58 cmp.Or[int]
def F58_L0 (k : Nat) (a22 : Sl Int) (a23 : Int) : Nat → Int → Option (Out Int Int)
  | 0, _ => none
  | n + 1, x24 =>
    if decide (x24 < a23) then
    Option.bind (Sl.at? a22 x24) fun y29 =>
    if y29 != 0 then
    some (Out.ret y29)
    else
    F58_L0 k a22 a23 n (ad .i64 x24 1)
    else
    some (Out.brk x24)
/-- cmp.Or[int] -/
def F58 (k : Nat) (a0 : Sl Int) : Option Int :=
  Option.bind (F58_L0 k a0 (Sl.len a0) k 0) fun y33 =>
  match y33 with
  | .ret y33r => some y33r
  | .brk y33b =>
  some 0
theorem l58_L0 {k : Nat} {a22 : Sl Int} {a23 : Int} {S0 : List SObj} {R : List Nat} {K : KX}  {o : Out Int Int}
    (hret : ∀ r : Int, o = .ret r → ∀ {σ' : Nat → PV} {S' : List SObj}, Known [(2, (.int .i64 r))] σ' → Hp S0 R S' [] [] → K .ret σ' S' false)
    (hbrk : ∀ y : Int, o = .brk y → ∀ {σ' : Nat → PV} {S' : List SObj}, Known [(3, (.int .i64 0)), (8, (.int .i64 y))] σ' → Hp S0 R S' [] [] → K (.exit 0) σ' S' false) :
    ∀ {n : Nat} {x24 : Int}, F58_L0 k a22 a23 n x24 = some o → ∀ {σ : Nat → PV} {S : List SObj}, Known [(3, (.int .i64 0)), (6, (encSl (eI .i64) a22)), (7, (.int .i64 a23)), (8, (.int .i64 x24))] σ → Hp S0 R S [] [] → WC env ⟨18, S0.length⟩ (.loop pc58L0) σ S false K := by
  intro n
  induction n with
  | zero => intro _ h; cases h
  | succ n ih =>
    intro x24 h σ S  hk H
    rw [F58_L0] at h
    refine WC.loop ?_
    refine WC.of_known hk ?_
    refine WC.seqR ?_
    refine WO.step (v := (.bool (decide (x24 < a23)))) rfl rfl ?_
    refine WO.nil ?_
    refine WC.seq ?_
    rcases iteS h with ⟨hc32, h⟩ | ⟨hc32, h⟩
    · refine WC.condT rfl hc32 ?_
      refine WC.skip ?_
      refine KX.seq_n ?_
      refine WC.seq ?_
      refine WC.block ?_
      refine WC.seqR ?_
      obtain ⟨y29, hy29, h⟩ := bindS h
      refine WO.step (v := (.iptr [(.int .i64 y29)] 0)) rfl (stp_idxAddr rfl (isSl_enc _ _) rfl rfl rfl hy29 rfl rfl) ?_
      refine WO.step (v := (.int .i64 y29)) rfl rfl ?_
      refine WO.step (v := (.int .i64 y29)) rfl rfl ?_
      refine WO.nil ?_
      refine WC.seqR ?_
      refine WO.step (v := (.int .i64 y29)) rfl rfl ?_
      refine WO.step (v := (.int .i64 0)) rfl rfl ?_
      refine WO.step (v := (.bool (y29 != 0))) rfl rfl ?_
      refine WO.nil ?_
      rcases iteS h with ⟨hc31, h⟩ | ⟨hc31, h⟩
      · refine WC.condT rfl hc31 ?_
        refine WC.seqR ?_
        refine WO.step (v := (.int .i64 y29)) rfl rfl ?_
        refine WO.step (v := (.int .i64 y29)) rfl rfl ?_
        refine WO.nil ?_
        refine WC.ret ?_
        refine KX.block_r ?_
        refine KX.seq_r ?_
        refine KX.seq_r ?_
        obtain rfl := Option.some.inj h
        exact hret _ rfl (known_cons rfl known_nil) (H.sub .slnil .slnil)
      · refine WC.condF rfl hc31 ?_
        refine WC.skip ?_
        refine KX.block_n ?_
        refine KX.seq_n ?_
        refine WC.region ?_
        refine WO.step (v := (.int .i64 (ad .i64 x24 1))) rfl rfl ?_
        refine WO.step (v := (.int .i64 (ad .i64 x24 1))) rfl rfl ?_
        refine WO.nil ?_
        refine KX.seq_n ?_
        exact ih h  (known_cons rfl (known_cons rfl (known_cons rfl (known_cons rfl known_nil)))) (H.sub .slnil .slnil)
    · refine WC.condF rfl hc32 ?_
      refine WC.exit ?_
      refine KX.seq_x ?_
      refine KX.seq_x ?_
      obtain rfl := Option.some.inj h
      exact hbrk _ rfl  (known_cons rfl (known_cons rfl known_nil)) (H.sub .slnil .slnil)
theorem s58 : ∀ k : Nat, ∀ {a0 : Sl Int} {r : Int}, F58 k a0 = some r → ∀ {vs : List PV}, vs.map PV.strip = [(encSl (eI .i64) a0)] → ∀ S : List SObj, evw env 58 vs S = some ((.int .i64 r), S, false) := by
  intro k a0 r h vs ha S
  unfold F58 at h
  refine evw_pureW (pf := fn58) rfl rfl ha (Nat.le_of_ble_eq_true rfl) (by simp [PV.clean, cleanL, clean_encSl (clean_eI .i64)]) rfl ?_
  refine WB.of (pf := fn58) rfl ?_
  have H := Hp.start []
  refine WC.seqR ?_
  refine WO.step (v := (.int .i64 0)) rfl rfl ?_
  refine WO.nil ?_
  refine WC.seqR ?_
  refine WO.step (v := (.int .i64 0)) rfl rfl ?_
  refine WO.nil ?_
  refine WC.seq ?_
  refine WC.seqR ?_
  refine WO.step (v := (encSl (eI .i64) a0)) rfl rfl ?_
  refine WO.step (v := (.int .i64 (Sl.len a0))) rfl (stp_len rfl (isSl_enc _ _) rfl) ?_
  refine WO.step (v := (.int .i64 0)) rfl rfl ?_
  refine WO.nil ?_
  obtain ⟨y33, hy33, hOy33⟩ := bindS h
  refine WC.block ?_
  refine l58_L0 ?_ ?_ hy33  (known_cons rfl (known_cons rfl (known_cons rfl (known_cons rfl known_nil)))) (H.sub .slnil .slnil)
  · intro y33r he σ S  hk H; subst he; replace h := hOy33; dsimp only at h
    refine KX.of_known hk ?_
    refine KX.block_r ?_
    refine KX.seq_r ?_
    obtain rfl := Option.some.inj h
    refine KB.ret (vs := [(.int .i64 y33r)]) (res_tmp rfl res_nil) ?_
    exact rfl
  · intro y33b he σ S  hk H; subst he; replace h := hOy33; dsimp only at h
    refine KX.of_known hk ?_
    refine KX.block_x ?_
    refine KX.seq_n ?_
    refine WC.seqR ?_
    refine WO.step (v := (.int .i64 0)) rfl rfl ?_
    refine WO.step (v := (.int .i64 0)) rfl rfl ?_
    refine WO.nil ?_
    refine WC.ret ?_
    obtain rfl := Option.some.inj h
    refine KB.ret (vs := [(.int .i64 0)]) (res_tmp rfl res_nil) ?_
    exact rfl
end Go.Proofs.Ythcchjhieolflaa.M
