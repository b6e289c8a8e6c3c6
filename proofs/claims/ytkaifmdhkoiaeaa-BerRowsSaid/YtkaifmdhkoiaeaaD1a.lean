/- Part of the proof: the runs of functions on the abstract machine. -/
import Derived.Test.YtkaifmdhkoiaeaaPam29
import Derived.Test.YtkaifmdhkoiaeaaFns
namespace Go.Proofs.Ytkaifmdhkoiaeaa.M
open Go Go.Pam Go.RowKit Go.WideShapes
set_option maxRecDepth 4000
set_option linter.unusedVariables false
set_option linter.unusedSimpArgs false

def env : Env := ⟨ctx, fnOf, fun _ => none⟩
structure Ber_reader where
  s_ : Str
  at_ : Int
  deriving DecidableEq
def e_Ber_reader (x : Ber_reader) : PV := .agg [(.str x.s_), (.int .i64 x.at_)]
theorem clean_Ber_reader (x : Ber_reader) : (e_Ber_reader x).clean = true := by simp [e_Ber_reader, PV.clean, cleanL]
theorem e_Ber_reader_cells (x : Ber_reader) : (e_Ber_reader x).cells = [(.str x.s_), (.int .i64 x.at_)] := rfl
theorem e_Ber_reader_one (x : Ber_reader) : (e_Ber_reader x).storable = true ∧ (e_Ber_reader x).cells.length = 2 ∧ (e_Ber_reader x).strip = e_Ber_reader x := ⟨rfl, rfl, by simp only [e_Ber_reader, st_int, st_bool, st_str, st_nils, st_lst, st_agg, st_tup, st_fn, st1_int, st1_bool, st1_str, st1_nils, st1_lst, st2_int, st2_bool, st2_str, st2_nils, st2_lst, st2_agg, List.map_cons, List.map_nil, tupled, strip_enc, strip1_enc, strip2_enc]⟩
structure Api_Element where
  Tag : Int
  Body : Str
  Kids : Option (List Api_Element)
mutual
def e_Api_Element : Api_Element → PV
  | ⟨x0, x1, x2⟩ => .agg [(.int .u8 x0), (.str x1), e_Api_ElementO x2]
def e_Api_ElementO : Sl Api_Element → PV
  | none => .nils
  | some l => .lst (e_Api_ElementL l) .none
def e_Api_ElementL : List Api_Element → List PV
  | [] => []
  | a :: l => e_Api_Element a :: e_Api_ElementL l
end
theorem e_Api_ElementL_eq : ∀ l, e_Api_ElementL l = l.map e_Api_Element
  | [] => rfl
  | a :: l => by simp [e_Api_ElementL, e_Api_ElementL_eq l]
theorem e_Api_ElementO_eq (x : Sl Api_Element) : e_Api_ElementO x = encSl e_Api_Element x := by cases x <;> simp [e_Api_ElementO, encSl, e_Api_ElementL_eq]
mutual
theorem clean_Api_Element : ∀ x : Api_Element, (e_Api_Element x).clean = true
  | ⟨x0, x1, x2⟩ => by simp [e_Api_Element, PV.clean, cleanL, clean_Api_ElementO]
theorem clean_Api_ElementO : ∀ x : Sl Api_Element, (e_Api_ElementO x).clean = true
  | none => rfl
  | some l => by simp [e_Api_ElementO, PV.clean, clean_Api_ElementL l]
theorem clean_Api_ElementL : ∀ x : List Api_Element, cleanL (e_Api_ElementL x) = true
  | [] => rfl
  | a :: l => by simp [e_Api_ElementL, cleanL, clean_Api_Element a, clean_Api_ElementL l]
end
theorem e_Api_Element_eq (x : Api_Element) : e_Api_Element x = .agg [(.int .u8 x.Tag), (.str x.Body), (encSl e_Api_Element x.Kids)] := by cases x; simp [e_Api_Element, e_Api_ElementO_eq]
theorem e_Api_Element_cells (x : Api_Element) : (e_Api_Element x).cells = [(.int .u8 x.Tag), (.str x.Body), (encSl e_Api_Element x.Kids)] := by rw [e_Api_Element_eq]; rfl
theorem e_Api_Element_one (x : Api_Element) : (e_Api_Element x).storable = true ∧ (e_Api_Element x).cells.length = 3 ∧ (e_Api_Element x).strip = e_Api_Element x := by rw [e_Api_Element_eq]; exact ⟨rfl, rfl, by simp only [st_int, st_bool, st_str, st_nils, st_lst, st_agg, st_tup, st_fn, st1_int, st1_bool, st1_str, st1_nils, st1_lst, st2_int, st2_bool, st2_str, st2_nils, st2_lst, st2_agg, List.map_cons, List.map_nil, tupled, strip_enc, strip1_enc, strip2_enc]⟩
-- 13 prefect/ber.Head
def F13_L4 (k : Nat) (a349 : Int) (a350 : Sl Int) (a352 : Int) : Nat → Int → Int → Option (Int × Int)
  | 0, _, _ => none
  | n + 1, x348, x353 =>
    if decide (x353 < a352) then
    Option.bind (Sl.at? a350 x353) fun y357 =>
    Option.bind (shl? .i64 x348 8) fun z358 =>
    F13_L4 k a349 a350 a352 n (bOr .i64 z358 (cv .i64 y357)) (ad .i64 x353 1)
    else
    some (x348, x353)
/-- prefect/ber.Head -/
def F13 (k : Nat) (a0 : Str) : Option (Int × Int × Int) :=
  if a0 == [] then
  some (0, 0, 10)
  else
  Option.bind (Str.at? a0 0) fun c2 =>
  if (bAnd .u8 c2 31) == 31 then
  some (0, 0, 14)
  else
  if (Str.len a0) == 1 then
  some (0, 0, 10)
  else
  Option.bind (Str.at? a0 1) fun c5 =>
  Option.bind (if ((cv .i64 c5) == 128) || (decide ((cv .i64 c5) > 132)) then
  some (Out.ret (0, 0, 11))
  else
  if decide ((cv .i64 c5) > 128) then
  if decide ((Str.len a0) < (ad .i64 2 (sb .i64 (cv .i64 c5) 128))) then
  some (Out.ret (0, 0, 10))
  else
  Option.bind (Str.sub? a0 2 (ad .i64 2 (sb .i64 (cv .i64 c5) 128))) fun z324 =>
  Option.bind (F13_L4 k (sb .i64 (cv .i64 c5) 128) (Str.bytes z324) (Sl.len (Str.bytes z324)) k 0 0) fun y360 =>
  some (Out.brk (y360.1, sb .i64 (cv .i64 c5) 128))
  else
  some (Out.brk (cv .i64 c5, 0))) fun y304 =>
  match y304 with
  | .ret r => some r
  | .brk y304b =>
  if decide (y304b.1 > 4000) then
  some (0, 0, 13)
  else
  some (ad .i64 2 y304b.2, y304b.1, 0)
theorem l13_L4 {k : Nat} {a349 : Int} {a350 : Sl Int} {a352 : Int} {S0 : List SObj} {R : List Nat} {K : KX} {v351 : PV} (hv351 : IsSl (eI .u8) a350 v351)  {o : (Int × Int)}
    (hbrk : ∀ {σ' : Nat → PV} {S' : List SObj}, Known [(5, (.int .i64 o.1)), (6, (.int .i64 a349)), (44, (.int .i64 o.2))] σ' → Hp S0 R S' [] [] → K (.exit 4) σ' S' false) :
    ∀ {n : Nat} {x348 : Int} {x353 : Int}, F13_L4 k a349 a350 a352 n x348 x353 = some o → ∀ {σ : Nat → PV} {S : List SObj}, Known [(5, (.int .i64 x348)), (6, (.int .i64 a349)), (42, v351), (43, (.int .i64 a352)), (44, (.int .i64 x353))] σ → Hp S0 R S [] [] → WC env ⟨59, S0.length⟩ (.loop pc13L4) σ S false K := by
  intro n
  induction n with
  | zero => intro _ _ h; cases h
  | succ n ih =>
    intro x348 x353 h σ S  hk H
    rw [F13_L4] at h
    refine WC.loop ?_
    refine WC.of_known hk ?_
    refine WC.seqR ?_
    refine WO.step (v := (.bool (decide (x353 < a352)))) rfl rfl ?_
    refine WO.nil ?_
    refine WC.seq ?_
    rcases iteS h with ⟨hc359, h⟩ | ⟨hc359, h⟩
    · refine WC.condT rfl hc359 ?_
      refine WC.skip ?_
      refine KX.seq_n ?_
      refine WC.seq ?_
      refine WC.block ?_
      refine WC.seqR ?_
      obtain ⟨y357, hy357, h⟩ := bindS h
      refine WO.step (v := (.iptr [(.int .u8 y357)] 0)) rfl (stp_idxAddr rfl hv351 rfl rfl rfl hy357 rfl rfl) ?_
      refine WO.step (v := (.int .u8 y357)) rfl rfl ?_
      refine WO.step (v := (.int .u8 y357)) rfl rfl ?_
      refine WO.nil ?_
      refine WC.region ?_
      refine WO.step (v := (.int .i64 x348)) rfl rfl ?_
      obtain ⟨z358, hz358, h⟩ := bindS h
      refine WO.step (v := (.int .i64 z358)) rfl (stp_shl rfl rfl hz358) ?_
      refine WO.step (v := (.int .u8 y357)) rfl rfl ?_
      refine WO.step (v := (.int .i64 (cv .i64 y357))) rfl rfl ?_
      refine WO.step (v := (.int .i64 (bOr .i64 z358 (cv .i64 y357)))) rfl rfl ?_
      refine WO.step (v := (.int .i64 (bOr .i64 z358 (cv .i64 y357)))) rfl rfl ?_
      refine WO.nil ?_
      refine KX.block_n ?_
      refine KX.seq_n ?_
      refine WC.region ?_
      refine WO.step (v := (.int .i64 (ad .i64 x353 1))) rfl rfl ?_
      refine WO.step (v := (.int .i64 (ad .i64 x353 1))) rfl rfl ?_
      refine WO.nil ?_
      refine KX.seq_n ?_
      exact ih h  (known_cons rfl (known_cons rfl (known_cons rfl (known_cons rfl (known_cons rfl known_nil))))) (H.sub .slnil .slnil)
    · refine WC.condF rfl hc359 ?_
      refine WC.exit ?_
      refine KX.seq_x ?_
      refine KX.seq_x ?_
      obtain rfl := Option.some.inj h
      exact hbrk  (known_cons rfl (known_cons rfl (known_cons rfl known_nil))) (H.sub .slnil .slnil)
theorem s13 : ∀ k : Nat, ∀ {a0 : Str} {r : Int × Int × Int}, F13 k a0 = some r → ∀ {vs : List PV}, vs.map PV.strip = [(.str a0)] → ∀ S : List SObj, evw env 13 vs S = some ((.tup [(.int .i64 r.1), (.int .i64 r.2.1), (.int .i64 r.2.2)]), S, false) := by
  intro k a0 r h vs ha S
  unfold F13 at h
  refine evw_pureW (pf := fn13) rfl rfl ha (Nat.le_of_ble_eq_true rfl) rfl rfl ?_
  refine WB.of (pf := fn13) rfl ?_
  have H := Hp.start []
  refine WC.seqR ?_
  refine WO.step (v := (.int .i64 0)) rfl rfl ?_
  refine WO.step (v := (.int .i64 0)) rfl rfl ?_
  refine WO.step (v := (.int .i64 0)) rfl rfl ?_
  refine WO.nil ?_
  refine WC.seq ?_
  refine WC.seqR ?_
  refine WO.step (v := (.str a0)) rfl rfl ?_
  refine WO.step (v := (.bool (a0 == []))) rfl rfl ?_
  refine WO.nil ?_
  rcases iteS h with ⟨hc368, h⟩ | ⟨hc368, h⟩
  · refine WC.condT rfl hc368 ?_
    refine WC.seqR ?_
    refine WO.step (v := (.int .i64 0)) rfl rfl ?_
    refine WO.step (v := (.int .i64 0)) rfl rfl ?_
    refine WO.step (v := (.int .i64 10)) rfl rfl ?_
    refine WO.nil ?_
    refine WC.ret ?_
    refine KX.seq_r ?_
    obtain rfl := Option.some.inj h
    refine KB.ret (vs := [(.int .i64 0), (.int .i64 0), (.int .i64 10)]) (res_tmp rfl (res_tmp rfl (res_tmp rfl res_nil))) ?_
    exact rfl
  · refine WC.condF rfl hc368 ?_
    refine WC.skip ?_
    refine KX.seq_n ?_
    refine WC.seq ?_
    refine WC.seqR ?_
    refine WO.step (v := (.str a0)) rfl rfl ?_
    obtain ⟨c2, hc2, h⟩ := bindS h
    refine WO.step (v := (.int .u8 c2)) rfl (stp_idxStr rfl rfl rfl hc2) ?_
    refine WO.step (v := (.int .u8 (bAnd .u8 c2 31))) rfl rfl ?_
    refine WO.step (v := (.bool ((bAnd .u8 c2 31) == 31))) rfl rfl ?_
    refine WO.nil ?_
    rcases iteS h with ⟨hc367, h⟩ | ⟨hc367, h⟩
    · refine WC.condT rfl hc367 ?_
      refine WC.seqR ?_
      refine WO.step (v := (.int .i64 0)) rfl rfl ?_
      refine WO.step (v := (.int .i64 0)) rfl rfl ?_
      refine WO.step (v := (.int .i64 14)) rfl rfl ?_
      refine WO.nil ?_
      refine WC.ret ?_
      refine KX.seq_r ?_
      obtain rfl := Option.some.inj h
      refine KB.ret (vs := [(.int .i64 0), (.int .i64 0), (.int .i64 14)]) (res_tmp rfl (res_tmp rfl (res_tmp rfl res_nil))) ?_
      exact rfl
    · refine WC.condF rfl hc367 ?_
      refine WC.skip ?_
      refine KX.seq_n ?_
      refine WC.seq ?_
      refine WC.seqR ?_
      refine WO.step (v := (.str a0)) rfl rfl ?_
      refine WO.step (v := (.int .i64 (Str.len a0))) rfl rfl ?_
      refine WO.step (v := (.bool ((Str.len a0) == 1))) rfl rfl ?_
      refine WO.nil ?_
      rcases iteS h with ⟨hc366, h⟩ | ⟨hc366, h⟩
      · refine WC.condT rfl hc366 ?_
        refine WC.seqR ?_
        refine WO.step (v := (.int .i64 0)) rfl rfl ?_
        refine WO.step (v := (.int .i64 0)) rfl rfl ?_
        refine WO.step (v := (.int .i64 10)) rfl rfl ?_
        refine WO.nil ?_
        refine WC.ret ?_
        refine KX.seq_r ?_
        obtain rfl := Option.some.inj h
        refine KB.ret (vs := [(.int .i64 0), (.int .i64 0), (.int .i64 10)]) (res_tmp rfl (res_tmp rfl (res_tmp rfl res_nil))) ?_
        exact rfl
      · refine WC.condF rfl hc366 ?_
        refine WC.skip ?_
        refine KX.seq_n ?_
        refine WC.seqR ?_
        refine WO.step (v := (.str a0)) rfl rfl ?_
        obtain ⟨c5, hc5, h⟩ := bindS h
        refine WO.step (v := (.int .u8 c5)) rfl (stp_idxStr rfl rfl rfl hc5) ?_
        refine WO.step (v := (.int .i64 (cv .i64 c5))) rfl rfl ?_
        refine WO.step (v := (.int .i64 (cv .i64 c5))) rfl rfl ?_
        refine WO.nil ?_
        refine WC.seqR ?_
        refine WO.step (v := (.int .i64 0)) rfl rfl ?_
        refine WO.nil ?_
        refine WC.seq ?_
        refine WC.block ?_
        refine WC.seq ?_
        obtain ⟨y304, hy304, hOy304⟩ := bindS h
        refine WC.join (fun σ' S' e' => ∃ y304b, y304 = .brk y304b ∧ Known ([(5, (.int .i64 y304b.1)), (6, (.int .i64 y304b.2))]) σ' ∧ Hp [] [] S' [] [] ∧ e' = false) ?_ ?_
        · replace h := hy304
          refine WC.block ?_
          refine WC.seq ?_
          refine WC.block ?_
          refine WC.seq ?_
          refine WC.block ?_
          refine WC.seq ?_
          refine WC.seq ?_
          refine WC.seqR ?_
          refine WO.step (v := (.int .i64 (cv .i64 c5))) rfl rfl ?_
          refine WO.step (v := (.bool ((cv .i64 c5) == 128))) rfl rfl ?_
          refine WO.step (v := (.bool ((cv .i64 c5) == 128))) rfl rfl ?_
          refine WO.split 3 (fun σ' S' e' => Known ([(0, (.str a0)), (5, (.int .i64 (cv .i64 c5))), (6, (.int .i64 0)), (27, (.bool (((cv .i64 c5) == 128) || (decide ((cv .i64 c5) > 132)))))]) σ' ∧ Hp [] [] S' [] [] ∧ e' = false) ?_ ?_
          · cases hc320 : ((cv .i64 c5) == 128)
            · skip
              refine WO.go0 rfl rfl ?_
              refine WO.step (v := (.int .i64 (cv .i64 c5))) rfl rfl ?_
              refine WO.go0 rfl rfl ?_
              refine WO.step (v := (.bool (decide ((cv .i64 c5) > 132)))) rfl rfl ?_
              refine WO.step (v := (.bool (decide ((cv .i64 c5) > 132)))) rfl rfl ?_
              refine WO.nil ?_
              exact ⟨(known_cons rfl (known_cons rfl (known_cons rfl (known_cons rfl known_nil)))), H, rfl⟩
            · skip
              refine WO.by rfl rfl rfl ?_
              refine WO.by rfl rfl rfl ?_
              refine WO.step (v := (.bool true)) rfl rfl ?_
              refine WO.nil ?_
              exact ⟨(known_cons rfl (known_cons rfl (known_cons rfl (known_cons rfl known_nil)))), H, rfl⟩
          · rintro σ S e ⟨hk, H, rfl⟩
            refine WO.of_known hk ?_
            refine WO.step (v := (.bool (((cv .i64 c5) == 128) || (decide ((cv .i64 c5) > 132))))) rfl rfl ?_
            refine WO.nil ?_
            rcases iteS h with ⟨hc363, h⟩ | ⟨hc363, h⟩
            · refine WC.condT rfl hc363 ?_
              refine WC.exit ?_
              refine KX.seq_x ?_
              refine KX.seq_x ?_
              refine KX.block_x ?_
              refine KX.seq_n ?_
              refine WC.seq ?_
              refine WC.seqR ?_
              refine WO.step (v := (.int .i64 0)) rfl rfl ?_
              refine WO.step (v := (.int .i64 0)) rfl rfl ?_
              refine WO.step (v := (.int .i64 11)) rfl rfl ?_
              refine WO.nil ?_
              refine WC.ret ?_
              refine KX.seq_r ?_
              refine KX.block_r ?_
              refine KX.seq_r ?_
              refine KX.block_r ?_
              refine KX.seq_r ?_
              obtain rfl := Option.some.inj h
              replace h := hOy304
              refine KX.seq_r ?_
              refine KX.block_r ?_
              refine KX.seq_r ?_
              obtain rfl := Option.some.inj h
              refine KB.ret (vs := [(.int .i64 0), (.int .i64 0), (.int .i64 11)]) (res_tmp rfl (res_tmp rfl (res_tmp rfl res_nil))) ?_
              exact rfl
            · refine WC.condF rfl hc363 ?_
              refine WC.skip ?_
              refine KX.seq_n ?_
              refine WC.seqR ?_
              refine WO.step (v := (.int .i64 (cv .i64 c5))) rfl rfl ?_
              refine WO.step (v := (.bool (decide ((cv .i64 c5) > 128)))) rfl rfl ?_
              refine WO.step (v := (.bool (decide ((cv .i64 c5) > 128)))) rfl rfl ?_
              refine WO.nil ?_
              rcases iteS h with ⟨hc362, h⟩ | ⟨hc362, h⟩
              · refine WC.condT rfl hc362 ?_
                refine WC.exit ?_
                refine KX.seq_x ?_
                refine KX.block_y rfl ?_
                refine KX.seq_x ?_
                refine KX.block_x ?_
                refine KX.seq_n ?_
                refine WC.seqR ?_
                refine WO.step (v := (.int .i64 (cv .i64 c5))) rfl rfl ?_
                refine WO.step (v := (.int .i64 (sb .i64 (cv .i64 c5) 128))) rfl rfl ?_
                refine WO.step (v := (.int .i64 (sb .i64 (cv .i64 c5) 128))) rfl rfl ?_
                refine WO.nil ?_
                refine WC.seq ?_
                refine WC.seqR ?_
                refine WO.step (v := (.str a0)) rfl rfl ?_
                refine WO.step (v := (.int .i64 (Str.len a0))) rfl rfl ?_
                refine WO.step (v := (.int .i64 (sb .i64 (cv .i64 c5) 128))) rfl rfl ?_
                refine WO.step (v := (.int .i64 (ad .i64 2 (sb .i64 (cv .i64 c5) 128)))) rfl rfl ?_
                refine WO.step (v := (.bool (decide ((Str.len a0) < (ad .i64 2 (sb .i64 (cv .i64 c5) 128)))))) rfl rfl ?_
                refine WO.nil ?_
                rcases iteS h with ⟨hc361, h⟩ | ⟨hc361, h⟩
                · refine WC.condT rfl hc361 ?_
                  refine WC.seqR ?_
                  refine WO.step (v := (.int .i64 0)) rfl rfl ?_
                  refine WO.step (v := (.int .i64 0)) rfl rfl ?_
                  refine WO.step (v := (.int .i64 10)) rfl rfl ?_
                  refine WO.nil ?_
                  refine WC.ret ?_
                  refine KX.seq_r ?_
                  refine KX.block_r ?_
                  refine KX.seq_r ?_
                  obtain rfl := Option.some.inj h
                  replace h := hOy304
                  refine KX.seq_r ?_
                  refine KX.block_r ?_
                  refine KX.seq_r ?_
                  obtain rfl := Option.some.inj h
                  refine KB.ret (vs := [(.int .i64 0), (.int .i64 0), (.int .i64 10)]) (res_tmp rfl (res_tmp rfl (res_tmp rfl res_nil))) ?_
                  exact rfl
                · refine WC.condF rfl hc361 ?_
                  refine WC.skip ?_
                  refine KX.seq_n ?_
                  refine WC.seqR ?_
                  refine WO.step (v := (.int .i64 0)) rfl rfl ?_
                  refine WO.nil ?_
                  refine WC.seqR ?_
                  refine WO.step (v := (.str a0)) rfl rfl ?_
                  refine WO.step (v := (.int .i64 (sb .i64 (cv .i64 c5) 128))) rfl rfl ?_
                  refine WO.step (v := (.int .i64 (ad .i64 2 (sb .i64 (cv .i64 c5) 128)))) rfl rfl ?_
                  obtain ⟨z324, hz324, h⟩ := bindS h
                  refine WO.step (v := (.str z324)) rfl (stp_subStr rfl rfl rfl rfl hz324) ?_
                  refine WO.ex rfl (stp_bytes rfl rfl rfl rfl H) ?_
                  rintro v325 S ⟨hv325, H⟩
                  replace H : Hp [] [] _ [] [(v325, 1)] := H
                  refine WO.step (v := (.int .i64 (Sl.len (Str.bytes z324)))) rfl (stp_len rfl hv325 rfl) ?_
                  refine WO.step (v := (.int .i64 0)) rfl rfl ?_
                  refine WO.nil ?_
                  obtain ⟨y360, hy360, hOy360⟩ := bindS h
                  refine WC.block ?_
                  refine l13_L4 (hv325) ?_ hy360  (known_cons rfl (known_cons rfl (known_cons rfl (known_cons rfl (known_cons rfl known_nil))))) (H.sub .slnil (.cons _ .slnil))
                  · intro σ S  hk H; replace h := hOy360
                    refine KX.of_known hk ?_
                    refine KX.block_x ?_
                    refine KX.block_n ?_
                    refine KX.seq_n ?_
                    obtain rfl := Option.some.inj h
                    exact ⟨_, rfl, (known_cons rfl (known_cons rfl known_nil)), (H.sub .slnil .slnil), rfl⟩
              · refine WC.condF rfl hc362 ?_
                refine WC.skip ?_
                refine KX.seq_n ?_
                refine WC.exit ?_
                refine KX.block_y rfl ?_
                refine KX.seq_x ?_
                refine KX.block_y rfl ?_
                refine KX.seq_x ?_
                refine KX.block_x ?_
                refine KX.seq_n ?_
                obtain rfl := Option.some.inj h
                exact ⟨_, rfl, (known_cons rfl (known_cons rfl known_nil)), (H.sub .slnil .slnil), rfl⟩
        · rintro σ S e ⟨y304b, rfl, hk, H, rfl⟩
          replace h := hOy304
          dsimp only at h
          refine KX.of_known hk ?_
          refine KX.seq_n ?_
          refine WC.seq ?_
          refine WC.seqR ?_
          refine WO.step (v := (.int .i64 y304b.1)) rfl rfl ?_
          refine WO.step (v := (.bool (decide (y304b.1 > 4000)))) rfl rfl ?_
          refine WO.nil ?_
          rcases iteS h with ⟨hc365, h⟩ | ⟨hc365, h⟩
          · refine WC.condT rfl hc365 ?_
            refine WC.seqR ?_
            refine WO.step (v := (.int .i64 0)) rfl rfl ?_
            refine WO.step (v := (.int .i64 0)) rfl rfl ?_
            refine WO.step (v := (.int .i64 13)) rfl rfl ?_
            refine WO.nil ?_
            refine WC.ret ?_
            refine KX.seq_r ?_
            refine KX.block_r ?_
            refine KX.seq_r ?_
            obtain rfl := Option.some.inj h
            refine KB.ret (vs := [(.int .i64 0), (.int .i64 0), (.int .i64 13)]) (res_tmp rfl (res_tmp rfl (res_tmp rfl res_nil))) ?_
            exact rfl
          · refine WC.condF rfl hc365 ?_
            refine WC.skip ?_
            refine KX.seq_n ?_
            refine WC.exit ?_
            refine KX.block_x ?_
            refine KX.seq_n ?_
            refine WC.seqR ?_
            refine WO.step (v := (.int .i64 y304b.2)) rfl rfl ?_
            refine WO.step (v := (.int .i64 (ad .i64 2 y304b.2))) rfl rfl ?_
            refine WO.step (v := (.int .i64 y304b.1)) rfl rfl ?_
            refine WO.step (v := (.int .i64 (ad .i64 2 y304b.2))) rfl rfl ?_
            refine WO.step (v := (.int .i64 y304b.1)) rfl rfl ?_
            refine WO.step (v := (.int .i64 0)) rfl rfl ?_
            refine WO.nil ?_
            refine WC.ret ?_
            obtain rfl := Option.some.inj h
            refine KB.ret (vs := [(.int .i64 (ad .i64 2 y304b.2)), (.int .i64 y304b.1), (.int .i64 0)]) (res_tmp rfl (res_tmp rfl (res_tmp rfl res_nil))) ?_
            exact rfl
-- 22 (*prefect/ber.reader).read
def F22_L0 (rc0 : Ber_reader → Int → Int → Int → Option (Ber_reader × Api_Element × Int × Int)) (k : Nat) (a80 : Int) (a81 : Int) (a82 : Int) (a86 : Api_Element) : Nat → Int → Api_Element → Ber_reader → Option (Out (Ber_reader × Api_Element × Int × Int) (Int × Api_Element × Ber_reader))
  | 0, _, _, _ => none
  | n + 1, x83, b84, b87 =>
    if decide (x83 < (ad .i64 a82 a81)) then
    Option.bind (rc0 b87 x83 (ad .i64 a82 a81) (ad .i64 a80 1)) fun y96 =>
    if y96.2.2.2 != 0 then
    some (Out.ret (y96.1, (Api_Element.mk 0 [] none), 0, y96.2.2.2))
    else
    Option.bind (Sl.app? 48 b84.Kids (Sl.l (some [y96.2.1]))) fun z100 =>
    F22_L0 rc0 k a80 a81 a82 a86 n y96.2.2.1 (Api_Element.mk b84.Tag b84.Body z100) y96.1
    else
    some (Out.brk (x83, b84, b87))
/-- (*prefect/ber.reader).read -/
def F22 : Nat → Ber_reader → Int → Int → Int → Option (Ber_reader × Api_Element × Int × Int)
  | 0, _, _, _, _ => none
  | k + 1, a0, a1, a2, a3 =>
    if decide (a3 > 20) then
    some ((Ber_reader.mk a0.s_ a1), (Api_Element.mk 0 [] none), 0, 12)
    else
    Option.bind (Str.sub? a0.s_ a1 a2) fun z3 =>
    Option.bind (F13 k z3) fun y4 =>
    Option.bind (if (y4.2.2 == 0) && (decide (y4.2.1 > (sb .i64 (sb .i64 a2 a1) y4.1))) then
    some 10
    else
    some y4.2.2) fun y8 =>
    Option.bind (if (y8 == 10) && (decide (a3 > 1)) then
    some 11
    else
    some y8) fun y13 =>
    if y13 != 0 then
    some ((Ber_reader.mk a0.s_ a1), (Api_Element.mk 0 [] none), 0, y13)
    else
    Option.bind (Str.at? a0.s_ a1) fun c16 =>
    if (bAnd .u8 c16 32) == 0 then
    Option.bind (Str.sub? a0.s_ (ad .i64 a1 y4.1) (ad .i64 (ad .i64 a1 y4.1) y4.2.1)) fun z20 =>
    some ((Ber_reader.mk a0.s_ a1), (Api_Element.mk c16 z20 none), ad .i64 (ad .i64 a1 y4.1) y4.2.1, 0)
    else
    Option.bind (F22_L0 (F22 k) k a3 y4.2.1 (ad .i64 a1 y4.1) (Api_Element.mk 0 [] none) k (ad .i64 a1 y4.1) (Api_Element.mk c16 [] none) (Ber_reader.mk a0.s_ a1)) fun y106 =>
    match y106 with
    | .ret y106r => some y106r
    | .brk y106b =>
    some (y106b.2.2, y106b.2.1, ad .i64 (ad .i64 a1 y4.1) y4.2.1, 0)
theorem l22_L0 {rc0 : Ber_reader → Int → Int → Int → Option (Ber_reader × Api_Element × Int × Int)} (hrc0 : ∀ {a0 : Ber_reader} {a1 : Int} {a2 : Int} {a3 : Int} {r : Ber_reader × Api_Element × Int × Int}, rc0 a0 a1 a2 a3 = some r → ∀ {id : Nat} {S : List SObj}, S[id]? = some (.cells [(.str a0.s_), (.int .i64 a0.at_)]) → evw env 22 [.ptr id 0, (.int .i64 a1), (.int .i64 a2), (.int .i64 a3)] S = some ((.tup [(.agg [(.int .u8 r.2.1.Tag), (.str r.2.1.Body), (encSl e_Api_Element r.2.1.Kids)]), (.int .i64 r.2.2.1), (.int .i64 r.2.2.2)]), S.set id (.cells [(.str r.1.s_), (.int .i64 r.1.at_)]), false)) {k : Nat} {a80 : Int} {a81 : Int} {a82 : Int} {a86 : Api_Element} {S0 : List SObj} {R : List Nat} {K : KX} {i17 : Nat} {i1 : Nat} {id : Nat} (hi17 : S0.length ≤ i17) (hi1 : S0.length ≤ i1)  {o : Out (Ber_reader × Api_Element × Int × Int) (Int × Api_Element × Ber_reader)}
    (hret : ∀ r : Ber_reader × Api_Element × Int × Int, o = .ret r → ∀ {σ' : Nat → PV} {S' : List SObj} (v105 : PV) (_ : IsSl e_Api_Element r.2.1.Kids v105), Known [(8, (.ptr i1 0)), (9, (.int .i64 r.2.2.1)), (10, (.int .i64 r.2.2.2))] σ' → Hp S0 R S' [(i1, [(.int .u8 r.2.1.Tag), (.str r.2.1.Body), v105]), (id, [(.str r.1.s_), (.int .i64 r.1.at_)])] [] → K .ret σ' S' false)
    (hbrk : ∀ y : Int × Api_Element × Ber_reader, o = .brk y → ∀ {σ' : Nat → PV} {S' : List SObj}, ∀ (v104 : PV) (_ : IsSl e_Api_Element y.2.1.Kids v104), Known [(8, (.ptr i1 0)), (12, (.int .i64 a81)), (14, (.int .i64 a82)), (15, (.ptr i17 0)), (16, (.int .i64 y.1))] σ' → Hp S0 R S' [(i17, [(.int .u8 y.2.1.Tag), (.str y.2.1.Body), v104]), (i1, [(.int .u8 a86.Tag), (.str a86.Body), .nils]), (id, [(.str y.2.2.s_), (.int .i64 y.2.2.at_)])] [(v104, 3)] → K (.exit 0) σ' S' false) :
    ∀ {n : Nat} {x83 : Int} {b84 : Api_Element} {b87 : Ber_reader}, F22_L0 rc0 k a80 a81 a82 a86 n x83 b84 b87 = some o → ∀ {σ : Nat → PV} {S : List SObj}, ∀ (v85 : PV) (_ : IsSl e_Api_Element b84.Kids v85), Known [(0, (.ptr id 0)), (3, (.int .i64 a80)), (8, (.ptr i1 0)), (12, (.int .i64 a81)), (14, (.int .i64 a82)), (15, (.ptr i17 0)), (16, (.int .i64 x83))] σ → Hp S0 R S [(i17, [(.int .u8 b84.Tag), (.str b84.Body), v85]), (i1, [(.int .u8 a86.Tag), (.str a86.Body), .nils]), (id, [(.str b87.s_), (.int .i64 b87.at_)])] [(v85, 3)] → WC env ⟨121, S0.length⟩ (.loop pc22L0) σ S false K := by
  intro n
  induction n with
  | zero => intro _ _ _ h; cases h
  | succ n ih =>
    intro x83 b84 b87 h σ S v85 hv85 hk H
    rw [F22_L0] at h
    refine WC.loop ?_
    refine WC.of_known hk ?_
    refine WC.seq ?_
    refine WC.seqR ?_
    refine WO.step (v := (.int .i64 x83)) rfl rfl ?_
    refine WO.step (v := (.int .i64 a82)) rfl rfl ?_
    refine WO.step (v := (.int .i64 a81)) rfl rfl ?_
    refine WO.step (v := (.int .i64 (ad .i64 a82 a81))) rfl rfl ?_
    refine WO.step (v := (.bool (decide (x83 < (ad .i64 a82 a81))))) rfl rfl ?_
    refine WO.nil ?_
    rcases iteS h with ⟨hc103, h⟩ | ⟨hc103, h⟩
    · refine WC.condT rfl hc103 ?_
      refine WC.skip ?_
      refine KX.seq_n ?_
      refine WC.block ?_
      refine WC.seqR ?_
      refine WO.step (v := (.ptr id 0)) rfl rfl ?_
      refine WO.step (v := (.int .i64 x83)) rfl rfl ?_
      refine WO.step (v := (.int .i64 a82)) rfl rfl ?_
      refine WO.step (v := (.int .i64 a81)) rfl rfl ?_
      refine WO.step (v := (.int .i64 (ad .i64 a82 a81))) rfl rfl ?_
      refine WO.step (v := (.int .i64 a80)) rfl rfl ?_
      refine WO.step (v := (.int .i64 (ad .i64 a80 1))) rfl rfl ?_
      obtain ⟨y96, hy96, h⟩ := bindS h
      refine WO.callR 2 rfl rfl rfl H rfl (hrc0 hy96 (H.get 2 rfl)) ?_
      intro S H
      replace H : Hp S0 R _ [(i17, [(.int .u8 b84.Tag), (.str b84.Body), v85]), (i1, [(.int .u8 a86.Tag), (.str a86.Body), .nils]), (id, [(.str y96.1.s_), (.int .i64 y96.1.at_)])] [(v85, 3)] := H
      refine WO.step (v := (.tup [(.agg [(.int .u8 y96.2.1.Tag), (.str y96.2.1.Body), (encSl e_Api_Element y96.2.1.Kids)]), (.int .i64 y96.2.2.1), (.int .i64 y96.2.2.2)])) rfl rfl ?_
      refine WO.step (v := (.agg [(.int .u8 y96.2.1.Tag), (.str y96.2.1.Body), (encSl e_Api_Element y96.2.1.Kids)])) rfl rfl ?_
      refine WO.step (v := (.int .i64 y96.2.2.1)) rfl rfl ?_
      refine WO.step (v := (.int .i64 y96.2.2.2)) rfl rfl ?_
      refine WO.alloc' (ti := ty25) rfl rfl rfl rfl H ?_
      intro i97 S hi97 H
      refine WO.store 0 rfl H rfl rfl rfl rfl rfl rfl rfl (Nat.le_of_ble_eq_true rfl) rfl (own_e hi97) ?_
      intro S H
      replace H : Hp S0 R _ [(i97, [(.int .u8 y96.2.1.Tag), (.str y96.2.1.Body), (encSl e_Api_Element y96.2.1.Kids)]), (i17, [(.int .u8 b84.Tag), (.str b84.Body), v85]), (i1, [(.int .u8 a86.Tag), (.str a86.Body), .nils]), (id, [(.str y96.1.s_), (.int .i64 y96.1.at_)])] [(v85, 3)] := H
      refine WO.step (v := (.int .i64 y96.2.2.1)) rfl rfl ?_
      refine WO.step (v := (.int .i64 y96.2.2.2)) rfl rfl ?_
      refine WO.nil ?_
      refine WC.seq ?_
      refine WC.seqR ?_
      refine WO.step (v := (.int .i64 y96.2.2.2)) rfl rfl ?_
      refine WO.step (v := (.bool (y96.2.2.2 != 0))) rfl rfl ?_
      refine WO.nil ?_
      rcases iteS h with ⟨hc102, h⟩ | ⟨hc102, h⟩
      · refine WC.condT rfl hc102 ?_
        refine WC.seqR ?_
        refine WO.step (v := (.agg [(.int .u8 0), (.str []), .nils])) rfl (stp_build (ti := ty25) rfl rfl rfl rfl rfl rfl) ?_
        refine WO.step (v := (.int .i64 y96.2.2.2)) rfl rfl ?_
        refine WO.store 2 rfl H rfl rfl rfl rfl rfl rfl rfl (Nat.le_of_ble_eq_true rfl) rfl (own_e hi1) ?_
        intro S H
        replace H : Hp S0 R _ [(i97, [(.int .u8 y96.2.1.Tag), (.str y96.2.1.Body), (encSl e_Api_Element y96.2.1.Kids)]), (i17, [(.int .u8 b84.Tag), (.str b84.Body), v85]), (i1, [(.int .u8 0), (.str []), .nils]), (id, [(.str y96.1.s_), (.int .i64 y96.1.at_)])] [(v85, 3)] := H
        refine WO.step (v := (.int .i64 0)) rfl rfl ?_
        refine WO.step (v := (.int .i64 y96.2.2.2)) rfl rfl ?_
        refine WO.nil ?_
        refine WC.ret ?_
        refine KX.seq_r ?_
        refine KX.block_r ?_
        refine KX.seq_r ?_
        obtain rfl := Option.some.inj h
        exact hret _ rfl .nils (isSl_nil _) (known_cons rfl (known_cons rfl (known_cons rfl known_nil))) (H.sub (.cons _ (.cons _ (.cons_cons _ (.cons_cons _ .slnil)))) (.cons _ .slnil))
      · refine WC.condF rfl hc102 ?_
        refine WC.skip ?_
        refine KX.seq_n ?_
        refine WC.seqR ?_
        refine WO.step (v := (.ptr i17 2)) rfl rfl ?_
        refine WO.step (v := v85) rfl (stp_load rfl (H.get 1 rfl) rfl) ?_
        refine WO.step (v := (.agg [(.int .u8 y96.2.1.Tag), (.str y96.2.1.Body), (encSl e_Api_Element y96.2.1.Kids)])) rfl (stp_load rfl (H.get 0 rfl) rfl) ?_
        refine WO.step rfl (stp_buildSlice (ys := [y96.2.1]) (f := e_Api_Element) (parts := [(0, (.agg [(.int .u8 y96.2.1.Tag), (.str y96.2.1.Body), (encSl e_Api_Element y96.2.1.Kids)]))]) rfl rfl rfl rfl rfl (by simp only [st_agg, List.map_cons, List.map_nil, st1_int, st1_str, strip1_enc, e_Api_Element_eq, tupled]) (fc ⟨rfl, rfl⟩ (fun p hp => nomatch hp)) rfl) ?_
        have hv99 : IsSl e_Api_Element (some [y96.2.1]) _ := ⟨.full, rfl⟩
        obtain ⟨z100, hz100, h⟩ := bindS h
        refine WO.ex rfl (stp_app (f := e_Api_Element) (ei := ty25) H 0 rfl rfl hv85 rfl hv99 rfl rfl rfl rfl (fun a => (e_Api_Element_one a).2.1) hz100) ?_
        rintro v101 S ⟨hv101, H⟩
        replace H : Hp S0 R _ [(i97, [(.int .u8 y96.2.1.Tag), (.str y96.2.1.Body), (encSl e_Api_Element y96.2.1.Kids)]), (i17, [(.int .u8 b84.Tag), (.str b84.Body), v85]), (i1, [(.int .u8 a86.Tag), (.str a86.Body), .nils]), (id, [(.str y96.1.s_), (.int .i64 y96.1.at_)])] [(v101, 3)] := H
        refine WO.step (v := (.ptr i17 2)) rfl rfl ?_
        refine WO.store 1 rfl H rfl rfl rfl rfl hv101.one.1 hv101.one.2 rfl (Nat.le_of_ble_eq_true rfl) rfl (own_e hi17) ?_
        intro S H
        replace H : Hp S0 R _ [(i97, [(.int .u8 y96.2.1.Tag), (.str y96.2.1.Body), (encSl e_Api_Element y96.2.1.Kids)]), (i17, [(.int .u8 b84.Tag), (.str b84.Body), v101]), (i1, [(.int .u8 a86.Tag), (.str a86.Body), .nils]), (id, [(.str y96.1.s_), (.int .i64 y96.1.at_)])] [(v101, 3)] := H
        refine WO.nil ?_
        refine WC.region ?_
        refine WO.step (v := (.int .i64 y96.2.2.1)) rfl rfl ?_
        refine WO.step (v := (.int .i64 y96.2.2.1)) rfl rfl ?_
        refine WO.nil ?_
        refine KX.block_n ?_
        refine KX.seq_n ?_
        exact ih h v101 (hv101) (known_cons rfl (known_cons rfl (known_cons rfl (known_cons rfl (known_cons rfl (known_cons rfl (known_cons rfl known_nil))))))) (H.sub (.cons _ (.cons_cons _ (.cons_cons _ (.cons_cons _ .slnil)))) (.cons_cons _ .slnil))
    · refine WC.condF rfl hc103 ?_
      refine WC.exit ?_
      refine KX.seq_x ?_
      refine KX.seq_x ?_
      obtain rfl := Option.some.inj h
      exact hbrk _ rfl v85 (hv85) (known_cons rfl (known_cons rfl (known_cons rfl (known_cons rfl (known_cons rfl known_nil))))) (H.sub (.cons_cons _ (.cons_cons _ (.cons_cons _ .slnil))) (.cons_cons _ .slnil))
theorem s22 : ∀ k : Nat, ∀ {a0 : Ber_reader} {a1 : Int} {a2 : Int} {a3 : Int} {r : Ber_reader × Api_Element × Int × Int}, F22 k a0 a1 a2 a3 = some r → ∀ {id : Nat} {S : List SObj}, S[id]? = some (.cells [(.str a0.s_), (.int .i64 a0.at_)]) → evw env 22 [.ptr id 0, (.int .i64 a1), (.int .i64 a2), (.int .i64 a3)] S = some ((.tup [(.agg [(.int .u8 r.2.1.Tag), (.str r.2.1.Body), (encSl e_Api_Element r.2.1.Kids)]), (.int .i64 r.2.2.1), (.int .i64 r.2.2.2)]), S.set id (.cells [(.str r.1.s_), (.int .i64 r.1.at_)]), false) := by
  intro k
  induction k with
  | zero => intro _ _ _ _ r h; cases h
  | succ k ih =>
    intro a0 a1 a2 a3 r h id S0 hS
    rw [F22] at h
    refine evw_recvW (pf := fn22) rfl rfl (Nat.le_of_ble_eq_true rfl) rfl ?_
    refine WB.of (pf := fn22) rfl ?_
    have H := Hp.start1 hS
    refine WC.seqR ?_
    refine WO.alloc' (ti := ty25) rfl rfl rfl rfl H ?_
    intro i1 S hi1 H
    refine WO.step (v := (.int .i64 0)) rfl rfl ?_
    refine WO.step (v := (.int .i64 0)) rfl rfl ?_
    refine WO.nil ?_
    refine WC.seqR ?_
    refine WO.step (v := (.ptr id 0)) rfl rfl ?_
    refine WO.step (v := (.int .i64 a1)) rfl rfl ?_
    refine WO.step (v := (.ptr id 0)) rfl rfl ?_
    refine WO.step (v := (.ptr id 1)) rfl rfl ?_
    refine WO.store 1 rfl H rfl rfl rfl rfl rfl rfl rfl (Nat.le_of_ble_eq_true rfl) rfl (clean_e rfl) ?_
    intro S H
    replace H : Hp S0 [id] _ [(i1, [(.int .u8 0), (.str []), .nils]), (id, [(.str a0.s_), (.int .i64 a1)])] [] := H
    refine WO.nil ?_
    refine WC.seq ?_
    refine WC.seqR ?_
    refine WO.step (v := (.int .i64 a3)) rfl rfl ?_
    refine WO.step (v := (.bool (decide (a3 > 20)))) rfl rfl ?_
    refine WO.nil ?_
    rcases iteS h with ⟨hc111, h⟩ | ⟨hc111, h⟩
    · refine WC.condT rfl hc111 ?_
      refine WC.seqR ?_
      refine WO.step (v := (.agg [(.int .u8 0), (.str []), .nils])) rfl (stp_build (ti := ty25) rfl rfl rfl rfl rfl rfl) ?_
      refine WO.store 0 rfl H rfl rfl rfl rfl rfl rfl rfl (Nat.le_of_ble_eq_true rfl) rfl (own_e hi1) ?_
      intro S H
      replace H : Hp S0 [id] _ [(i1, [(.int .u8 0), (.str []), .nils]), (id, [(.str a0.s_), (.int .i64 a1)])] [] := H
      refine WO.step (v := (.int .i64 0)) rfl rfl ?_
      refine WO.step (v := (.int .i64 12)) rfl rfl ?_
      refine WO.nil ?_
      refine WC.ret ?_
      refine KX.seq_r ?_
      obtain rfl := Option.some.inj h
      refine KB.ret (vs := [(.agg [(.int .u8 0), (.str []), .nils]), (.int .i64 0), (.int .i64 12)]) (res_cell rfl (H.get 0 rfl) rfl (res_tmp rfl (res_tmp rfl res_nil))) ?_
      exact leave_hp hS H 1 rfl (by simp only [st_tup, List.map_cons, List.map_nil, tupled, st2_agg, st1_int, st1_str, st1_nils, encSl_none, e_Api_Element_eq, st2_int]) (by simp [PV.clean, cleanL, clean_encSl clean_Api_Element])
    · refine WC.condF rfl hc111 ?_
      refine WC.skip ?_
      refine KX.seq_n ?_
      refine WC.seqR ?_
      refine WO.step (v := (.ptr id 0)) rfl rfl ?_
      refine WO.step (v := (.ptr id 0)) rfl rfl ?_
      refine WO.step (v := (.ptr id 0)) rfl rfl ?_
      refine WO.step (v := (.str a0.s_)) rfl (stp_load rfl (H.get 1 rfl) rfl) ?_
      refine WO.step (v := (.int .i64 a1)) rfl rfl ?_
      refine WO.step (v := (.int .i64 a2)) rfl rfl ?_
      obtain ⟨z3, hz3, h⟩ := bindS h
      refine WO.step (v := (.str z3)) rfl (stp_subStr rfl rfl rfl rfl hz3) ?_
      obtain ⟨y4, hy4, h⟩ := bindS h
      refine WO.step (v := (.tup [(.int .i64 y4.1), (.int .i64 y4.2.1), (.int .i64 y4.2.2)])) rfl (stp_call (vs := [(.str z3)]) rfl rfl (s13 _ hy4 rfl _)) ?_
      refine WO.step (v := (.tup [(.int .i64 y4.1), (.int .i64 y4.2.1), (.int .i64 y4.2.2)])) rfl rfl ?_
      refine WO.step (v := (.int .i64 y4.1)) rfl rfl ?_
      refine WO.step (v := (.int .i64 y4.2.1)) rfl rfl ?_
      refine WO.step (v := (.int .i64 y4.2.2)) rfl rfl ?_
      refine WO.step (v := (.int .i64 y4.1)) rfl rfl ?_
      refine WO.step (v := (.int .i64 y4.2.1)) rfl rfl ?_
      refine WO.step (v := (.int .i64 y4.2.2)) rfl rfl ?_
      refine WO.nil ?_
      refine WC.seq ?_
      refine WC.seqR ?_
      refine WO.step (v := (.int .i64 y4.2.2)) rfl rfl ?_
      refine WO.step (v := (.bool (y4.2.2 == 0))) rfl rfl ?_
      refine WO.step (v := (.bool (y4.2.2 == 0))) rfl rfl ?_
      refine WO.split 8 (fun σ' S' e' => Known ([(0, (.ptr id 0)), (1, (.int .i64 a1)), (3, (.int .i64 a3)), (8, (.ptr i1 0)), (11, (.int .i64 y4.1)), (12, (.int .i64 y4.2.1)), (13, (.int .i64 y4.2.2)), (49, (.bool ((y4.2.2 == 0) && (decide (y4.2.1 > (sb .i64 (sb .i64 a2 a1) y4.1))))))]) σ' ∧ Hp S0 [id] S' [(i1, [(.int .u8 0), (.str []), .nils]), (id, [(.str a0.s_), (.int .i64 a1)])] [] ∧ e' = false) ?_ ?_
      · cases hc5 : (y4.2.2 == 0)
        · skip
          refine WO.by rfl rfl rfl ?_
          refine WO.by rfl rfl rfl ?_
          refine WO.by rfl rfl rfl ?_
          refine WO.by rfl rfl rfl ?_
          refine WO.by rfl rfl rfl ?_
          refine WO.by rfl rfl rfl ?_
          refine WO.by rfl rfl rfl ?_
          refine WO.step (v := (.bool false)) rfl rfl ?_
          refine WO.nil ?_
          exact ⟨(known_cons rfl (known_cons rfl (known_cons rfl (known_cons rfl (known_cons rfl (known_cons rfl (known_cons rfl (known_cons rfl known_nil)))))))), H, rfl⟩
        · skip
          refine WO.go0 rfl rfl ?_
          refine WO.step (v := (.int .i64 y4.2.1)) rfl rfl ?_
          refine WO.go0 rfl rfl ?_
          refine WO.step (v := (.int .i64 a2)) rfl rfl ?_
          refine WO.go0 rfl rfl ?_
          refine WO.step (v := (.int .i64 a1)) rfl rfl ?_
          refine WO.go0 rfl rfl ?_
          refine WO.step (v := (.int .i64 (sb .i64 a2 a1))) rfl rfl ?_
          refine WO.go0 rfl rfl ?_
          refine WO.step (v := (.int .i64 y4.1)) rfl rfl ?_
          refine WO.go0 rfl rfl ?_
          refine WO.step (v := (.int .i64 (sb .i64 (sb .i64 a2 a1) y4.1))) rfl rfl ?_
          refine WO.go0 rfl rfl ?_
          refine WO.step (v := (.bool (decide (y4.2.1 > (sb .i64 (sb .i64 a2 a1) y4.1))))) rfl rfl ?_
          refine WO.step (v := (.bool (decide (y4.2.1 > (sb .i64 (sb .i64 a2 a1) y4.1))))) rfl rfl ?_
          refine WO.nil ?_
          exact ⟨(known_cons rfl (known_cons rfl (known_cons rfl (known_cons rfl (known_cons rfl (known_cons rfl (known_cons rfl (known_cons rfl known_nil)))))))), H, rfl⟩
      · rintro σ S e ⟨hk, H, rfl⟩
        refine WO.of_known hk ?_
        refine WO.nil ?_
        obtain ⟨y8, hy8, hOy8⟩ := bindS h
        refine WC.join (fun σ' S' e' => Known ([(0, (.ptr id 0)), (1, (.int .i64 a1)), (3, (.int .i64 a3)), (8, (.ptr i1 0)), (11, (.int .i64 y4.1)), (12, (.int .i64 y4.2.1)), (13, (.int .i64 y8))]) σ' ∧ Hp S0 [id] S' [(i1, [(.int .u8 0), (.str []), .nils]), (id, [(.str a0.s_), (.int .i64 a1)])] [] ∧ e' = false) ?_ ?_
        · replace h := hy8
          rcases iteS h with ⟨hc9, h⟩ | ⟨hc9, h⟩
          · refine WC.condT rfl hc9 ?_
            refine WC.region ?_
            refine WO.step (v := (.int .i64 10)) rfl rfl ?_
            refine WO.nil ?_
            refine KX.seq_n ?_
            obtain rfl := Option.some.inj h
            exact ⟨(known_cons rfl (known_cons rfl (known_cons rfl (known_cons rfl (known_cons rfl (known_cons rfl (known_cons rfl known_nil))))))), (H.sub (.cons_cons _ (.cons_cons _ .slnil)) .slnil), rfl⟩
          · refine WC.condF rfl hc9 ?_
            refine WC.skip ?_
            refine KX.seq_n ?_
            obtain rfl := Option.some.inj h
            exact ⟨(known_cons rfl (known_cons rfl (known_cons rfl (known_cons rfl (known_cons rfl (known_cons rfl (known_cons rfl known_nil))))))), (H.sub (.cons_cons _ (.cons_cons _ .slnil)) .slnil), rfl⟩
        · rintro σ S e ⟨hk, H, rfl⟩
          replace h := hOy8
          refine KX.of_known hk ?_
          refine KX.seq_n ?_
          refine WC.seq ?_
          refine WC.seqR ?_
          refine WO.step (v := (.int .i64 y8)) rfl rfl ?_
          refine WO.step (v := (.bool (y8 == 10))) rfl rfl ?_
          refine WO.step (v := (.bool (y8 == 10))) rfl rfl ?_
          refine WO.split 3 (fun σ' S' e' => Known ([(0, (.ptr id 0)), (1, (.int .i64 a1)), (3, (.int .i64 a3)), (8, (.ptr i1 0)), (11, (.int .i64 y4.1)), (12, (.int .i64 y4.2.1)), (13, (.int .i64 y8)), (55, (.bool ((y8 == 10) && (decide (a3 > 1)))))]) σ' ∧ Hp S0 [id] S' [(i1, [(.int .u8 0), (.str []), .nils]), (id, [(.str a0.s_), (.int .i64 a1)])] [] ∧ e' = false) ?_ ?_
          · cases hc10 : (y8 == 10)
            · skip
              refine WO.by rfl rfl rfl ?_
              refine WO.by rfl rfl rfl ?_
              refine WO.step (v := (.bool false)) rfl rfl ?_
              refine WO.nil ?_
              exact ⟨(known_cons rfl (known_cons rfl (known_cons rfl (known_cons rfl (known_cons rfl (known_cons rfl (known_cons rfl (known_cons rfl known_nil)))))))), H, rfl⟩
            · skip
              refine WO.go0 rfl rfl ?_
              refine WO.step (v := (.int .i64 a3)) rfl rfl ?_
              refine WO.go0 rfl rfl ?_
              refine WO.step (v := (.bool (decide (a3 > 1)))) rfl rfl ?_
              refine WO.step (v := (.bool (decide (a3 > 1)))) rfl rfl ?_
              refine WO.nil ?_
              exact ⟨(known_cons rfl (known_cons rfl (known_cons rfl (known_cons rfl (known_cons rfl (known_cons rfl (known_cons rfl (known_cons rfl known_nil)))))))), H, rfl⟩
          · rintro σ S e ⟨hk, H, rfl⟩
            refine WO.of_known hk ?_
            refine WO.nil ?_
            obtain ⟨y13, hy13, hOy13⟩ := bindS h
            refine WC.join (fun σ' S' e' => Known ([(0, (.ptr id 0)), (1, (.int .i64 a1)), (3, (.int .i64 a3)), (8, (.ptr i1 0)), (11, (.int .i64 y4.1)), (12, (.int .i64 y4.2.1)), (13, (.int .i64 y13))]) σ' ∧ Hp S0 [id] S' [(i1, [(.int .u8 0), (.str []), .nils]), (id, [(.str a0.s_), (.int .i64 a1)])] [] ∧ e' = false) ?_ ?_
            · replace h := hy13
              rcases iteS h with ⟨hc14, h⟩ | ⟨hc14, h⟩
              · refine WC.condT rfl hc14 ?_
                refine WC.region ?_
                refine WO.step (v := (.int .i64 11)) rfl rfl ?_
                refine WO.nil ?_
                refine KX.seq_n ?_
                obtain rfl := Option.some.inj h
                exact ⟨(known_cons rfl (known_cons rfl (known_cons rfl (known_cons rfl (known_cons rfl (known_cons rfl (known_cons rfl known_nil))))))), (H.sub (.cons_cons _ (.cons_cons _ .slnil)) .slnil), rfl⟩
              · refine WC.condF rfl hc14 ?_
                refine WC.skip ?_
                refine KX.seq_n ?_
                obtain rfl := Option.some.inj h
                exact ⟨(known_cons rfl (known_cons rfl (known_cons rfl (known_cons rfl (known_cons rfl (known_cons rfl (known_cons rfl known_nil))))))), (H.sub (.cons_cons _ (.cons_cons _ .slnil)) .slnil), rfl⟩
            · rintro σ S e ⟨hk, H, rfl⟩
              replace h := hOy13
              refine KX.of_known hk ?_
              refine KX.seq_n ?_
              refine WC.seq ?_
              refine WC.seqR ?_
              refine WO.step (v := (.int .i64 y13)) rfl rfl ?_
              refine WO.step (v := (.bool (y13 != 0))) rfl rfl ?_
              refine WO.nil ?_
              rcases iteS h with ⟨hc110, h⟩ | ⟨hc110, h⟩
              · refine WC.condT rfl hc110 ?_
                refine WC.seqR ?_
                refine WO.step (v := (.agg [(.int .u8 0), (.str []), .nils])) rfl (stp_build (ti := ty25) rfl rfl rfl rfl rfl rfl) ?_
                refine WO.step (v := (.int .i64 y13)) rfl rfl ?_
                refine WO.store 0 rfl H rfl rfl rfl rfl rfl rfl rfl (Nat.le_of_ble_eq_true rfl) rfl (own_e hi1) ?_
                intro S H
                replace H : Hp S0 [id] _ [(i1, [(.int .u8 0), (.str []), .nils]), (id, [(.str a0.s_), (.int .i64 a1)])] [] := H
                refine WO.step (v := (.int .i64 0)) rfl rfl ?_
                refine WO.step (v := (.int .i64 y13)) rfl rfl ?_
                refine WO.nil ?_
                refine WC.ret ?_
                refine KX.seq_r ?_
                obtain rfl := Option.some.inj h
                refine KB.ret (vs := [(.agg [(.int .u8 0), (.str []), .nils]), (.int .i64 0), (.int .i64 y13)]) (res_cell rfl (H.get 0 rfl) rfl (res_tmp rfl (res_tmp rfl res_nil))) ?_
                exact leave_hp hS H 1 rfl (by simp only [st_tup, List.map_cons, List.map_nil, tupled, st2_agg, st1_int, st1_str, st1_nils, encSl_none, e_Api_Element_eq, st2_int]) (by simp [PV.clean, cleanL, clean_encSl clean_Api_Element])
              · refine WC.condF rfl hc110 ?_
                refine WC.skip ?_
                refine KX.seq_n ?_
                refine WC.seqR ?_
                refine WO.step (v := (.int .i64 a1)) rfl rfl ?_
                refine WO.step (v := (.int .i64 y4.1)) rfl rfl ?_
                refine WO.step (v := (.int .i64 (ad .i64 a1 y4.1))) rfl rfl ?_
                refine WO.step (v := (.int .i64 (ad .i64 a1 y4.1))) rfl rfl ?_
                refine WO.nil ?_
                refine WC.seqR ?_
                refine WO.step (v := (.ptr id 0)) rfl rfl ?_
                refine WO.step (v := (.ptr id 0)) rfl rfl ?_
                refine WO.step (v := (.ptr id 0)) rfl rfl ?_
                refine WO.step (v := (.str a0.s_)) rfl (stp_load rfl (H.get 1 rfl) rfl) ?_
                refine WO.step (v := (.int .i64 a1)) rfl rfl ?_
                obtain ⟨c16, hc16, h⟩ := bindS h
                refine WO.step (v := (.int .u8 c16)) rfl (stp_idxStr rfl rfl rfl hc16) ?_
                refine WO.step (v := (.agg [(.int .u8 c16), (.str []), .nils])) rfl (stp_build (ti := ty25) rfl rfl rfl rfl rfl (fill_cons rfl rfl rfl rfl (Nat.le_of_ble_eq_true rfl) rfl rfl)) ?_
                refine WO.alloc' (ti := ty25) rfl rfl rfl rfl H ?_
                intro i17 S hi17 H
                refine WO.store 0 rfl H rfl rfl rfl rfl rfl rfl rfl (Nat.le_of_ble_eq_true rfl) rfl (own_e hi17) ?_
                intro S H
                replace H : Hp S0 [id] _ [(i17, [(.int .u8 c16), (.str []), .nils]), (i1, [(.int .u8 0), (.str []), .nils]), (id, [(.str a0.s_), (.int .i64 a1)])] [] := H
                refine WO.nil ?_
                refine WC.seq ?_
                refine WC.seqR ?_
                refine WO.step (v := (.ptr i17 0)) rfl rfl ?_
                refine WO.step (v := (.int .u8 c16)) rfl (stp_load rfl (H.get 0 rfl) rfl) ?_
                refine WO.step (v := (.int .u8 (bAnd .u8 c16 32))) rfl rfl ?_
                refine WO.step (v := (.bool ((bAnd .u8 c16 32) == 0))) rfl rfl ?_
                refine WO.nil ?_
                rcases iteS h with ⟨hc109, h⟩ | ⟨hc109, h⟩
                · refine WC.condT rfl hc109 ?_
                  refine WC.seqR ?_
                  refine WO.step (v := (.ptr id 0)) rfl rfl ?_
                  refine WO.step (v := (.ptr id 0)) rfl rfl ?_
                  refine WO.step (v := (.ptr id 0)) rfl rfl ?_
                  refine WO.step (v := (.str a0.s_)) rfl (stp_load rfl (H.get 2 rfl) rfl) ?_
                  refine WO.step (v := (.int .i64 (ad .i64 a1 y4.1))) rfl rfl ?_
                  refine WO.step (v := (.int .i64 (ad .i64 a1 y4.1))) rfl rfl ?_
                  refine WO.step (v := (.int .i64 y4.2.1)) rfl rfl ?_
                  refine WO.step (v := (.int .i64 (ad .i64 (ad .i64 a1 y4.1) y4.2.1))) rfl rfl ?_
                  obtain ⟨z20, hz20, h⟩ := bindS h
                  refine WO.step (v := (.str z20)) rfl (stp_subStr rfl rfl rfl rfl hz20) ?_
                  refine WO.step (v := (.ptr i17 1)) rfl rfl ?_
                  refine WO.store 0 rfl H rfl rfl rfl rfl rfl rfl rfl (Nat.le_of_ble_eq_true rfl) rfl (own_e hi17) ?_
                  intro S H
                  replace H : Hp S0 [id] _ [(i17, [(.int .u8 c16), (.str z20), .nils]), (i1, [(.int .u8 0), (.str []), .nils]), (id, [(.str a0.s_), (.int .i64 a1)])] [] := H
                  refine WO.nil ?_
                  refine WC.seqR ?_
                  refine WO.step (v := (.agg [(.int .u8 c16), (.str z20), .nils])) rfl (stp_load rfl (H.get 0 rfl) rfl) ?_
                  refine WO.step (v := (.int .i64 (ad .i64 a1 y4.1))) rfl rfl ?_
                  refine WO.step (v := (.int .i64 y4.2.1)) rfl rfl ?_
                  refine WO.step (v := (.int .i64 (ad .i64 (ad .i64 a1 y4.1) y4.2.1))) rfl rfl ?_
                  refine WO.store 1 rfl H rfl rfl rfl rfl rfl rfl rfl (Nat.le_of_ble_eq_true rfl) rfl (own_e hi1) ?_
                  intro S H
                  replace H : Hp S0 [id] _ [(i17, [(.int .u8 c16), (.str z20), .nils]), (i1, [(.int .u8 c16), (.str z20), .nils]), (id, [(.str a0.s_), (.int .i64 a1)])] [] := H
                  refine WO.step (v := (.int .i64 (ad .i64 (ad .i64 a1 y4.1) y4.2.1))) rfl rfl ?_
                  refine WO.step (v := (.int .i64 0)) rfl rfl ?_
                  refine WO.nil ?_
                  refine WC.ret ?_
                  refine KX.seq_r ?_
                  obtain rfl := Option.some.inj h
                  refine KB.ret (vs := [(.agg [(.int .u8 c16), (.str z20), .nils]), (.int .i64 (ad .i64 (ad .i64 a1 y4.1) y4.2.1)), (.int .i64 0)]) (res_cell rfl (H.get 1 rfl) rfl (res_tmp rfl (res_tmp rfl res_nil))) ?_
                  exact leave_hp hS H 2 rfl (by simp only [st_tup, List.map_cons, List.map_nil, tupled, st2_agg, st1_int, st1_str, st1_nils, encSl_none, e_Api_Element_eq, st2_int]) (by simp [PV.clean, cleanL, clean_encSl clean_Api_Element])
                · refine WC.condF rfl hc109 ?_
                  refine WC.skip ?_
                  refine KX.seq_n ?_
                  refine WC.seq ?_
                  refine WC.seqR ?_
                  refine WO.step (v := (.int .i64 (ad .i64 a1 y4.1))) rfl rfl ?_
                  refine WO.step (v := (.int .i64 (ad .i64 a1 y4.1))) rfl rfl ?_
                  refine WO.nil ?_
                  obtain ⟨y106, hy106, hOy106⟩ := bindS h
                  refine WC.block ?_
                  have H := H.addNil 3
                  refine l22_L0 ih hi17 hi1 ?_ ?_ hy106 .nils (isSl_nil _) (known_cons rfl (known_cons rfl (known_cons rfl (known_cons rfl (known_cons rfl (known_cons rfl (known_cons rfl known_nil))))))) (H.sub (.cons_cons _ (.cons_cons _ (.cons_cons _ .slnil))) (.cons_cons _ .slnil))
                  · intro y106r he σ S v108 hv108 hk H; subst he; replace h := hOy106; dsimp only at h
                    refine KX.of_known hk ?_
                    refine KX.block_r ?_
                    refine KX.seq_r ?_
                    obtain rfl := Option.some.inj h
                    refine KB.ret (vs := [(.agg [(.int .u8 y106r.2.1.Tag), (.str y106r.2.1.Body), v108]), (.int .i64 y106r.2.2.1), (.int .i64 y106r.2.2.2)]) (res_cell rfl (H.get 0 rfl) rfl (res_tmp rfl (res_tmp rfl res_nil))) ?_
                    exact leave_hp hS H 1 rfl (by simp only [st_tup, List.map_cons, List.map_nil, tupled, st2_agg, st1_int, st1_str, hv108.strip1, e_Api_Element_eq, st2_int]) (by simp [PV.clean, cleanL, clean_encSl clean_Api_Element])
                  · intro y106b he σ S v107 hv107 hk H; subst he; replace h := hOy106; dsimp only at h
                    refine KX.of_known hk ?_
                    refine KX.block_x ?_
                    refine KX.seq_n ?_
                    refine WC.seqR ?_
                    refine WO.step (v := (.agg [(.int .u8 y106b.2.1.Tag), (.str y106b.2.1.Body), v107])) rfl (stp_load rfl (H.get 0 rfl) rfl) ?_
                    refine WO.step (v := (.int .i64 (ad .i64 a1 y4.1))) rfl rfl ?_
                    refine WO.step (v := (.int .i64 y4.2.1)) rfl rfl ?_
                    refine WO.step (v := (.int .i64 (ad .i64 (ad .i64 a1 y4.1) y4.2.1))) rfl rfl ?_
                    refine WO.store 1 rfl H rfl rfl rfl rfl rfl rfl rfl (Nat.le_of_ble_eq_true rfl) rfl (own_e hi1) ?_
                    intro S H
                    replace H : Hp S0 [id] _ [(i17, [(.int .u8 y106b.2.1.Tag), (.str y106b.2.1.Body), v107]), (i1, [(.int .u8 y106b.2.1.Tag), (.str y106b.2.1.Body), v107]), (id, [(.str y106b.2.2.s_), (.int .i64 y106b.2.2.at_)])] [(v107, 3)] := H
                    refine WO.step (v := (.int .i64 (ad .i64 (ad .i64 a1 y4.1) y4.2.1))) rfl rfl ?_
                    refine WO.step (v := (.int .i64 0)) rfl rfl ?_
                    refine WO.nil ?_
                    refine WC.ret ?_
                    obtain rfl := Option.some.inj h
                    refine KB.ret (vs := [(.agg [(.int .u8 y106b.2.1.Tag), (.str y106b.2.1.Body), v107]), (.int .i64 (ad .i64 (ad .i64 a1 y4.1) y4.2.1)), (.int .i64 0)]) (res_cell rfl (H.get 1 rfl) rfl (res_tmp rfl (res_tmp rfl res_nil))) ?_
                    exact leave_hp hS H 2 rfl (by simp only [st_tup, List.map_cons, List.map_nil, tupled, st2_agg, st1_int, st1_str, hv107.strip1, e_Api_Element_eq, st2_int]) (by simp [PV.clean, cleanL, clean_encSl clean_Api_Element])
-- 11 prefect/ber.Read
/-- prefect/ber.Read -/
def F11 (k : Nat) (a0 : Str) : Option (Api_Element × Int × Int × Int) :=
  Option.bind (F22 k (Ber_reader.mk a0 0) 0 (Str.len a0) 1) fun y3 =>
  if y3.2.2.2 != 0 then
  some ((Api_Element.mk 0 [] none), 0, y3.1.at_, y3.2.2.2)
  else
  some (y3.2.1, y3.2.2.1, 0, 0)
theorem s11 : ∀ k : Nat, ∀ {a0 : Str} {r : Api_Element × Int × Int × Int}, F11 k a0 = some r → ∀ {vs : List PV}, vs.map PV.strip = [(.str a0)] → ∀ S : List SObj, evw env 11 vs S = some ((.tup [(.agg [(.int .u8 r.1.Tag), (.str r.1.Body), (encSl e_Api_Element r.1.Kids)]), (.int .i64 r.2.1), (.int .i64 r.2.2.1), (.int .i64 r.2.2.2)]), S, false) := by
  intro k a0 r h vs ha S
  unfold F11 at h
  refine evw_pureW (pf := fn11) rfl rfl ha (Nat.le_of_ble_eq_true rfl) rfl (by simp [PV.clean, cleanL, clean_encSl clean_Api_Element]) ?_
  refine WB.of (pf := fn11) rfl ?_
  have H := Hp.start []
  refine WC.seqR ?_
  refine WO.alloc' (ti := ty25) rfl rfl rfl rfl H ?_
  intro i1 S hi1 H
  refine WO.step (v := (.int .i64 0)) rfl rfl ?_
  refine WO.step (v := (.int .i64 0)) rfl rfl ?_
  refine WO.step (v := (.int .i64 0)) rfl rfl ?_
  refine WO.nil ?_
  refine WC.seqR ?_
  refine WO.step (v := (.str a0)) rfl rfl ?_
  refine WO.step (v := (.agg [(.str a0), (.int .i64 0)])) rfl (stp_build (ti := ty56) rfl rfl rfl rfl rfl (fill_cons rfl rfl rfl rfl (Nat.le_of_ble_eq_true rfl) rfl rfl)) ?_
  refine WO.box' rfl rfl rfl rfl H ?_
  intro i2 S hi2 H
  refine WO.step (v := (.ptr i2 0)) rfl rfl ?_
  refine WO.nil ?_
  refine WC.seqR ?_
  refine WO.step (v := (.ptr i2 0)) rfl rfl ?_
  refine WO.step (v := (.str a0)) rfl rfl ?_
  refine WO.step (v := (.int .i64 (Str.len a0))) rfl rfl ?_
  obtain ⟨y3, hy3, h⟩ := bindS h
  refine WO.callR 0 rfl rfl rfl H rfl (s22 _ hy3 (H.get 0 rfl)) ?_
  intro S H
  replace H : Hp [] [] _ [(i2, [(.str y3.1.s_), (.int .i64 y3.1.at_)]), (i1, [(.int .u8 0), (.str []), .nils])] [] := H
  refine WO.step (v := (.tup [(.agg [(.int .u8 y3.2.1.Tag), (.str y3.2.1.Body), (encSl e_Api_Element y3.2.1.Kids)]), (.int .i64 y3.2.2.1), (.int .i64 y3.2.2.2)])) rfl rfl ?_
  refine WO.step (v := (.agg [(.int .u8 y3.2.1.Tag), (.str y3.2.1.Body), (encSl e_Api_Element y3.2.1.Kids)])) rfl rfl ?_
  refine WO.step (v := (.int .i64 y3.2.2.1)) rfl rfl ?_
  refine WO.step (v := (.int .i64 y3.2.2.2)) rfl rfl ?_
  refine WO.alloc' (ti := ty25) rfl rfl rfl rfl H ?_
  intro i4 S hi4 H
  refine WO.store 0 rfl H rfl rfl rfl rfl rfl rfl rfl (Nat.le_of_ble_eq_true rfl) rfl (own_e hi4) ?_
  intro S H
  replace H : Hp [] [] _ [(i4, [(.int .u8 y3.2.1.Tag), (.str y3.2.1.Body), (encSl e_Api_Element y3.2.1.Kids)]), (i2, [(.str y3.1.s_), (.int .i64 y3.1.at_)]), (i1, [(.int .u8 0), (.str []), .nils])] [] := H
  refine WO.step (v := (.int .i64 y3.2.2.1)) rfl rfl ?_
  refine WO.step (v := (.int .i64 y3.2.2.2)) rfl rfl ?_
  refine WO.nil ?_
  refine WC.seq ?_
  refine WC.seqR ?_
  refine WO.step (v := (.int .i64 y3.2.2.2)) rfl rfl ?_
  refine WO.step (v := (.bool (y3.2.2.2 != 0))) rfl rfl ?_
  refine WO.nil ?_
  rcases iteS h with ⟨hc6, h⟩ | ⟨hc6, h⟩
  · refine WC.condT rfl hc6 ?_
    refine WC.seq ?_
    refine WC.draw ?_
    refine WH.step (v := (.agg [(.int .u8 0), (.str []), .nils])) rfl (stp_build (ti := ty25) rfl rfl rfl rfl rfl rfl) rfl rfl ?_
    refine WH.step (v := (.ptr i2 0)) rfl rfl rfl rfl ?_
    refine WH.step (v := (.ptr i2 0)) rfl rfl rfl rfl ?_
    refine WH.step (v := (.ptr i2 1)) rfl rfl rfl rfl ?_
    refine WH.step (v := (.int .i64 y3.1.at_)) rfl (stp_load rfl (H.get 1 rfl) rfl) rfl rfl ?_
    refine WH.step (v := (.int .i64 y3.2.2.2)) rfl rfl rfl rfl ?_
    refine WH.step (v := .tup []) rfl (stp_store (e := false) rfl rfl (H.get 2 rfl) rfl rfl rfl rfl (Nat.le_of_ble_eq_true rfl) rfl (own_e hi1)) (set_same (H.get 2 rfl)) rfl ?_
    refine WH.step (v := (.int .i64 0)) rfl rfl rfl rfl ?_
    refine WH.step (v := (.int .i64 y3.1.at_)) rfl rfl rfl rfl ?_
    refine WH.nil ?_
    refine WO.step (v := (.int .i64 y3.2.2.2)) rfl rfl ?_
    refine WO.nil ?_
    refine KX.seq_n ?_
    refine WC.ret ?_
    refine KX.seq_r ?_
    obtain rfl := Option.some.inj h
    refine KB.ret (vs := [(.agg [(.int .u8 0), (.str []), .nils]), (.int .i64 0), (.int .i64 y3.1.at_), (.int .i64 y3.2.2.2)]) (res_cell rfl (H.get 2 rfl) rfl (res_tmp rfl (res_tmp rfl (res_tmp rfl res_nil)))) ?_
    exact (by simp only [st_tup, List.map_cons, List.map_nil, tupled, st2_agg, st1_int, st1_str, st1_nils, encSl_none, e_Api_Element_eq, st2_int])
  · refine WC.condF rfl hc6 ?_
    refine WC.skip ?_
    refine KX.seq_n ?_
    refine WC.seqR ?_
    refine WO.step (v := (.agg [(.int .u8 y3.2.1.Tag), (.str y3.2.1.Body), (encSl e_Api_Element y3.2.1.Kids)])) rfl (stp_load rfl (H.get 0 rfl) rfl) ?_
    refine WO.step (v := (.int .i64 y3.2.2.1)) rfl rfl ?_
    refine WO.store 2 rfl H rfl rfl rfl rfl rfl rfl rfl (Nat.le_of_ble_eq_true rfl) rfl (own_e hi1) ?_
    intro S H
    replace H : Hp [] [] _ [(i4, [(.int .u8 y3.2.1.Tag), (.str y3.2.1.Body), (encSl e_Api_Element y3.2.1.Kids)]), (i2, [(.str y3.1.s_), (.int .i64 y3.1.at_)]), (i1, [(.int .u8 y3.2.1.Tag), (.str y3.2.1.Body), (encSl e_Api_Element y3.2.1.Kids)])] [] := H
    refine WO.step (v := (.int .i64 y3.2.2.1)) rfl rfl ?_
    refine WO.step (v := (.int .i64 0)) rfl rfl ?_
    refine WO.step (v := (.int .i64 0)) rfl rfl ?_
    refine WO.nil ?_
    refine WC.ret ?_
    obtain rfl := Option.some.inj h
    refine KB.ret (vs := [(.agg [(.int .u8 y3.2.1.Tag), (.str y3.2.1.Body), (encSl e_Api_Element y3.2.1.Kids)]), (.int .i64 y3.2.2.1), (.int .i64 0), (.int .i64 0)]) (res_cell rfl (H.get 2 rfl) rfl (res_tmp rfl (res_tmp rfl (res_tmp rfl res_nil)))) ?_
    exact (by simp only [st_tup, List.map_cons, List.map_nil, tupled, st2_agg, st1_int, st1_str, strip1_enc, e_Api_Element_eq, st2_int])
-- 32 prefect/ber.formed$1
/-- prefect/ber.formed$1 -/
def F32 (k : Nat) (rc0 : Api_Element → Option Bool) (a0 : Api_Element) : Option Bool :=
  Option.bind (rc0 a0) fun y2 =>
  some (!y2)
theorem s32 {rc0 : Api_Element → Option Bool} (hrc0 : ∀ {a0 : Api_Element} {r : Bool}, rc0 a0 = some r → ∀ {vs : List PV}, vs.map PV.strip = [(.agg [(.int .u8 a0.Tag), (.str a0.Body), (encSl e_Api_Element a0.Kids)])] → ∀ S : List SObj, evw env 24 vs S = some ((.bool r), S, false))  : ∀ k : Nat, ∀ {a0 : Api_Element} {r : Bool}, F32 k rc0 a0 = some r → ∀ {vs : List PV}, vs.map PV.strip = [(.agg [(.int .u8 a0.Tag), (.str a0.Body), (encSl e_Api_Element a0.Kids)])] → ∀ S : List SObj, evw env 32 vs S = some ((.bool r), S, false) := by
  intro k a0 r h vs ha S
  unfold F32 at h
  refine evw_pureW (pf := fn32) rfl rfl ha (Nat.le_of_ble_eq_true rfl) (by simp [PV.clean, cleanL, clean_encSl clean_Api_Element]) rfl ?_
  refine WB.of (pf := fn32) rfl ?_
  have H := Hp.start []
  refine WC.seqR ?_
  refine WO.box' rfl rfl rfl rfl H ?_
  intro i1 S hi1 H
  refine WO.step (v := (.bool false)) rfl rfl ?_
  refine WO.nil ?_
  refine WC.seqR ?_
  refine WO.step (v := (.agg [(.int .u8 a0.Tag), (.str a0.Body), (encSl e_Api_Element a0.Kids)])) rfl (stp_load rfl (H.get 0 rfl) rfl) ?_
  obtain ⟨y2, hy2, h⟩ := bindS h
  refine WO.step (v := (.bool y2)) rfl (stp_call (vs := [(.agg [(.int .u8 a0.Tag), (.str a0.Body), (encSl e_Api_Element a0.Kids)])]) rfl rfl (hrc0 hy2 (by simp only [st_agg, List.map_cons, List.map_nil, st1_int, st1_str, strip1_enc, e_Api_Element_eq, tupled]) _)) ?_
  refine WO.step (v := (.bool (!y2))) rfl rfl ?_
  refine WO.step (v := (.bool (!y2))) rfl rfl ?_
  refine WO.nil ?_
  refine WC.ret ?_
  obtain rfl := Option.some.inj h
  refine KB.ret (vs := [(.bool (!y2))]) (res_tmp rfl res_nil) ?_
  exact rfl
-- 34_32 slices.IndexFunc[[]prefect/api.Element,prefect/api.Element]
def F34_32_L0 (rc0 : Api_Element → Option Bool) (k : Nat) (a26 : Sl Api_Element) (a27 : Int) : Nat → Int → Option (Out Int Int)
  | 0, _ => none
  | n + 1, x28 =>
    if decide (x28 < a27) then
    Option.bind (Sl.at? a26 x28) fun y34 =>
    Option.bind (F32 k rc0 y34) fun y35 =>
    if y35 then
    some (Out.ret x28)
    else
    F34_32_L0 rc0 k a26 a27 n (ad .i64 x28 1)
    else
    some (Out.brk x28)
/-- slices.IndexFunc[[]prefect/api.Element,prefect/api.Element] -/
def F34_32 (k : Nat) (rc0 : Api_Element → Option Bool) (a0 : Sl Api_Element) : Option Int :=
  Option.bind (F34_32_L0 rc0 k a0 (Sl.len a0) k 0) fun y39 =>
  match y39 with
  | .ret y39r => some y39r
  | .brk y39b =>
  some (-1)
theorem l34_32_L0 {rc0 : Api_Element → Option Bool} (hrc0 : ∀ {a0 : Api_Element} {r : Bool}, rc0 a0 = some r → ∀ {vs : List PV}, vs.map PV.strip = [(.agg [(.int .u8 a0.Tag), (.str a0.Body), (encSl e_Api_Element a0.Kids)])] → ∀ S : List SObj, evw env 24 vs S = some ((.bool r), S, false)) {k : Nat} {a26 : Sl Api_Element} {a27 : Int} {S0 : List SObj} {R : List Nat} {K : KX}  {o : Out Int Int}
    (hret : ∀ r : Int, o = .ret r → ∀ {σ' : Nat → PV} {S' : List SObj}, Known [(4, (.int .i64 r))] σ' → Hp S0 R S' [] [] → K .ret σ' S' false)
    (hbrk : ∀ y : Int, o = .brk y → ∀ {σ' : Nat → PV} {S' : List SObj}, Known [(8, (.int .i64 y))] σ' → Hp S0 R S' [] [] → K (.exit 0) σ' S' false) :
    ∀ {n : Nat} {x28 : Int}, F34_32_L0 rc0 k a26 a27 n x28 = some o → ∀ {σ : Nat → PV} {S : List SObj}, Known [(0, (encSl e_Api_Element a26)), (1, (.fn (.func 32) [] [])), (7, (.int .i64 a27)), (8, (.int .i64 x28))] σ → Hp S0 R S [] [] → WC env ⟨19, S0.length⟩ (.loop pc34L0) σ S false K := by
  intro n
  induction n with
  | zero => intro _ h; cases h
  | succ n ih =>
    intro x28 h σ S  hk H
    rw [F34_32_L0] at h
    refine WC.loop ?_
    refine WC.of_known hk ?_
    refine WC.seqR ?_
    refine WO.step (v := (.bool (decide (x28 < a27)))) rfl rfl ?_
    refine WO.nil ?_
    refine WC.seq ?_
    rcases iteS h with ⟨hc38, h⟩ | ⟨hc38, h⟩
    · refine WC.condT rfl hc38 ?_
      refine WC.skip ?_
      refine KX.seq_n ?_
      refine WC.seq ?_
      refine WC.block ?_
      refine WC.seqR ?_
      refine WO.step (v := (.int .i64 x28)) rfl rfl ?_
      refine WO.step (v := (.int .i64 x28)) rfl rfl ?_
      refine WO.nil ?_
      refine WC.seqR ?_
      refine WO.step (v := (.fn (.func 32) [] [])) rfl rfl ?_
      refine WO.step (v := (encSl e_Api_Element a26)) rfl rfl ?_
      refine WO.step (v := (.int .i64 x28)) rfl rfl ?_
      obtain ⟨y34, hy34, h⟩ := bindS h
      refine WO.step (v := (.iptr [(.int .u8 y34.Tag), (.str y34.Body), (encSl e_Api_Element y34.Kids)] 0)) rfl (stp_idxAddr rfl (isSl_enc _ _) rfl rfl rfl hy34 (e_Api_Element_cells _) rfl) ?_
      refine WO.step (v := (.agg [(.int .u8 y34.Tag), (.str y34.Body), (encSl e_Api_Element y34.Kids)])) rfl rfl ?_
      obtain ⟨y35, hy35, h⟩ := bindS h
      refine WO.step (v := (.bool y35)) rfl (stp_call (vs := [(.agg [(.int .u8 y34.Tag), (.str y34.Body), (encSl e_Api_Element y34.Kids)])]) rfl rfl (s32 hrc0 _ hy35 (by simp only [st_agg, List.map_cons, List.map_nil, st1_int, st1_str, strip1_enc, e_Api_Element_eq, tupled]) _)) ?_
      refine WO.nil ?_
      rcases iteS h with ⟨hc37, h⟩ | ⟨hc37, h⟩
      · refine WC.condT rfl hc37 ?_
        refine WC.seqR ?_
        refine WO.step (v := (.int .i64 x28)) rfl rfl ?_
        refine WO.step (v := (.int .i64 x28)) rfl rfl ?_
        refine WO.nil ?_
        refine WC.ret ?_
        refine KX.block_r ?_
        refine KX.seq_r ?_
        refine KX.seq_r ?_
        obtain rfl := Option.some.inj h
        exact hret _ rfl (known_cons rfl known_nil) (H.sub .slnil .slnil)
      · refine WC.condF rfl hc37 ?_
        refine WC.skip ?_
        refine KX.block_n ?_
        refine KX.seq_n ?_
        refine WC.region ?_
        refine WO.step (v := (.int .i64 (ad .i64 x28 1))) rfl rfl ?_
        refine WO.step (v := (.int .i64 (ad .i64 x28 1))) rfl rfl ?_
        refine WO.nil ?_
        refine KX.seq_n ?_
        exact ih h  (known_cons rfl (known_cons rfl (known_cons rfl (known_cons rfl known_nil)))) (H.sub .slnil .slnil)
    · refine WC.condF rfl hc38 ?_
      refine WC.exit ?_
      refine KX.seq_x ?_
      refine KX.seq_x ?_
      obtain rfl := Option.some.inj h
      exact hbrk _ rfl  (known_cons rfl known_nil) (H.sub .slnil .slnil)
theorem s34_32 {rc0 : Api_Element → Option Bool} (hrc0 : ∀ {a0 : Api_Element} {r : Bool}, rc0 a0 = some r → ∀ {vs : List PV}, vs.map PV.strip = [(.agg [(.int .u8 a0.Tag), (.str a0.Body), (encSl e_Api_Element a0.Kids)])] → ∀ S : List SObj, evw env 24 vs S = some ((.bool r), S, false))  : ∀ k : Nat, ∀ {a0 : Sl Api_Element} {r : Int}, F34_32 k rc0 a0 = some r → ∀ {vs : List PV}, vs.map PV.strip = [(encSl e_Api_Element a0), (.fn (.func 32) [] [])] → ∀ S : List SObj, evw env 34 vs S = some ((.int .i64 r), S, false) := by
  intro k a0 r h vs ha S
  unfold F34_32 at h
  refine evw_pureW (pf := fn34) rfl rfl ha (Nat.le_of_ble_eq_true rfl) (by simp [PV.clean, cleanL, clean_encSl clean_Api_Element]) rfl ?_
  refine WB.of (pf := fn34) rfl ?_
  have H := Hp.start []
  refine WC.seqR ?_
  refine WO.step (v := (.int .i64 0)) rfl rfl ?_
  refine WO.nil ?_
  refine WC.seq ?_
  refine WC.seqR ?_
  refine WO.step (v := (encSl e_Api_Element a0)) rfl rfl ?_
  refine WO.step (v := (.int .i64 (Sl.len a0))) rfl (stp_len rfl (isSl_enc _ _) rfl) ?_
  refine WO.step (v := (.int .i64 0)) rfl rfl ?_
  refine WO.nil ?_
  obtain ⟨y39, hy39, hOy39⟩ := bindS h
  refine WC.block ?_
  refine l34_32_L0 hrc0 ?_ ?_ hy39  (known_cons rfl (known_cons rfl (known_cons rfl (known_cons rfl known_nil)))) (H.sub .slnil .slnil)
  · intro y39r he σ S  hk H; subst he; replace h := hOy39; dsimp only at h
    refine KX.of_known hk ?_
    refine KX.block_r ?_
    refine KX.seq_r ?_
    obtain rfl := Option.some.inj h
    refine KB.ret (vs := [(.int .i64 y39r)]) (res_tmp rfl res_nil) ?_
    exact rfl
  · intro y39b he σ S  hk H; subst he; replace h := hOy39; dsimp only at h
    refine KX.of_known hk ?_
    refine KX.block_x ?_
    refine KX.seq_n ?_
    refine WC.seqR ?_
    refine WO.step (v := (.int .i64 (-1))) rfl rfl ?_
    refine WO.nil ?_
    refine WC.ret ?_
    obtain rfl := Option.some.inj h
    refine KB.ret (vs := [(.int .i64 (-1))]) (res_tmp rfl res_nil) ?_
    exact rfl
-- 31_32 slices.ContainsFunc[[]prefect/api.Element,prefect/api.Element]
/-- slices.ContainsFunc[[]prefect/api.Element,prefect/api.Element] -/
def F31_32 (k : Nat) (rc0 : Api_Element → Option Bool) (a0 : Sl Api_Element) : Option Bool :=
  Option.bind (F34_32 k rc0 a0) fun y1 =>
  some (decide (y1 ≥ 0))
theorem s31_32 {rc0 : Api_Element → Option Bool} (hrc0 : ∀ {a0 : Api_Element} {r : Bool}, rc0 a0 = some r → ∀ {vs : List PV}, vs.map PV.strip = [(.agg [(.int .u8 a0.Tag), (.str a0.Body), (encSl e_Api_Element a0.Kids)])] → ∀ S : List SObj, evw env 24 vs S = some ((.bool r), S, false))  : ∀ k : Nat, ∀ {a0 : Sl Api_Element} {r : Bool}, F31_32 k rc0 a0 = some r → ∀ {vs : List PV}, vs.map PV.strip = [(encSl e_Api_Element a0), (.fn (.func 32) [] [])] → ∀ S : List SObj, evw env 31 vs S = some ((.bool r), S, false) := by
  intro k a0 r h vs ha S
  unfold F31_32 at h
  refine evw_pureW (pf := fn31) rfl rfl ha (Nat.le_of_ble_eq_true rfl) (by simp [PV.clean, cleanL, clean_encSl clean_Api_Element]) rfl ?_
  refine WB.of (pf := fn31) rfl ?_
  have H := Hp.start []
  refine WC.seqR ?_
  refine WO.step (v := (.bool false)) rfl rfl ?_
  refine WO.nil ?_
  refine WC.seqR ?_
  refine WO.step (v := (encSl e_Api_Element a0)) rfl rfl ?_
  refine WO.step (v := (.fn (.func 32) [] [])) rfl rfl ?_
  obtain ⟨y1, hy1, h⟩ := bindS h
  refine WO.step (v := (.int .i64 y1)) rfl (stp_call (vs := [(encSl e_Api_Element a0), (.fn (.func 32) [] [])]) rfl rfl (s34_32 hrc0 _ hy1 (by simp only [strip_enc, st_fn, List.map_cons, List.map_nil, tupled]) _)) ?_
  refine WO.step (v := (.bool (decide (y1 ≥ 0)))) rfl rfl ?_
  refine WO.step (v := (.bool (decide (y1 ≥ 0)))) rfl rfl ?_
  refine WO.nil ?_
  refine WC.ret ?_
  obtain rfl := Option.some.inj h
  refine KB.ret (vs := [(.bool (decide (y1 ≥ 0)))]) (res_tmp rfl res_nil) ?_
  exact rfl
-- 24 prefect/ber.formed
/-- prefect/ber.formed -/
def F24 : Nat → Api_Element → Option Bool
  | 0, _ => none
  | k + 1, a0 =>
    if (bAnd .u8 a0.Tag 31) == 31 then
    some false
    else
    if (bAnd .u8 a0.Tag 32) == 0 then
    some ((Sl.len a0.Kids) == 0)
    else
    Option.bind (if a0.Body == [] then
    Option.bind (F31_32 k (F24 k) a0.Kids) fun y17 =>
    some (!y17)
    else
    some false) fun y16 =>
    some y16
theorem s24 : ∀ k : Nat, ∀ {a0 : Api_Element} {r : Bool}, F24 k a0 = some r → ∀ {vs : List PV}, vs.map PV.strip = [(.agg [(.int .u8 a0.Tag), (.str a0.Body), (encSl e_Api_Element a0.Kids)])] → ∀ S : List SObj, evw env 24 vs S = some ((.bool r), S, false) := by
  intro k
  induction k with
  | zero => intro _ r h; cases h
  | succ k ih =>
    intro a0 r h vs ha S
    rw [F24] at h
    refine evw_pureW (pf := fn24) rfl rfl ha (Nat.le_of_ble_eq_true rfl) (by simp [PV.clean, cleanL, clean_encSl clean_Api_Element]) rfl ?_
    refine WB.of (pf := fn24) rfl ?_
    have H := Hp.start []
    refine WC.seqR ?_
    refine WO.box' rfl rfl rfl rfl H ?_
    intro i1 S hi1 H
    refine WO.step (v := (.bool false)) rfl rfl ?_
    refine WO.nil ?_
    refine WC.seq ?_
    refine WC.block ?_
    refine WC.seqR ?_
    refine WO.step (v := (.ptr i1 0)) rfl rfl ?_
    refine WO.step (v := (.int .u8 a0.Tag)) rfl (stp_load rfl (H.get 0 rfl) rfl) ?_
    refine WO.step (v := (.int .u8 (bAnd .u8 a0.Tag 31))) rfl rfl ?_
    refine WO.step (v := (.bool ((bAnd .u8 a0.Tag 31) == 31))) rfl rfl ?_
    refine WO.step (v := (.bool ((bAnd .u8 a0.Tag 31) == 31))) rfl rfl ?_
    refine WO.nil ?_
    rcases iteS h with ⟨hc20, h⟩ | ⟨hc20, h⟩
    · refine WC.condT rfl hc20 ?_
      refine WC.seqR ?_
      refine WO.step (v := (.bool false)) rfl rfl ?_
      refine WO.nil ?_
      refine WC.ret ?_
      refine KX.block_r ?_
      refine KX.seq_r ?_
      obtain rfl := Option.some.inj h
      refine KB.ret (vs := [(.bool false)]) (res_tmp rfl res_nil) ?_
      exact rfl
    · refine WC.condF rfl hc20 ?_
      refine WC.seqR ?_
      refine WO.step (v := (.ptr i1 0)) rfl rfl ?_
      refine WO.step (v := (.int .u8 a0.Tag)) rfl (stp_load rfl (H.get 0 rfl) rfl) ?_
      refine WO.step (v := (.int .u8 (bAnd .u8 a0.Tag 32))) rfl rfl ?_
      refine WO.step (v := (.bool ((bAnd .u8 a0.Tag 32) == 0))) rfl rfl ?_
      refine WO.step (v := (.bool ((bAnd .u8 a0.Tag 32) == 0))) rfl rfl ?_
      refine WO.nil ?_
      rcases iteS h with ⟨hc19, h⟩ | ⟨hc19, h⟩
      · refine WC.condT rfl hc19 ?_
        refine WC.seqR ?_
        refine WO.step (v := (.ptr i1 2)) rfl rfl ?_
        refine WO.step (v := (encSl e_Api_Element a0.Kids)) rfl (stp_load rfl (H.get 0 rfl) rfl) ?_
        refine WO.step (v := (.int .i64 (Sl.len a0.Kids))) rfl (stp_len rfl (isSl_enc _ _) rfl) ?_
        refine WO.step (v := (.bool ((Sl.len a0.Kids) == 0))) rfl rfl ?_
        refine WO.step (v := (.bool ((Sl.len a0.Kids) == 0))) rfl rfl ?_
        refine WO.nil ?_
        refine WC.ret ?_
        refine KX.block_r ?_
        refine KX.seq_r ?_
        obtain rfl := Option.some.inj h
        refine KB.ret (vs := [(.bool ((Sl.len a0.Kids) == 0))]) (res_tmp rfl res_nil) ?_
        exact rfl
      · refine WC.condF rfl hc19 ?_
        refine WC.skip ?_
        refine KX.block_n ?_
        refine KX.seq_n ?_
        refine WC.seqR ?_
        refine WO.step (v := (.ptr i1 1)) rfl rfl ?_
        refine WO.step (v := (.str a0.Body)) rfl (stp_load rfl (H.get 0 rfl) rfl) ?_
        refine WO.step (v := (.bool (a0.Body == []))) rfl rfl ?_
        refine WO.step (v := (.bool (a0.Body == []))) rfl rfl ?_
        obtain ⟨y16, hy16, hOy16⟩ := bindS h
        refine WO.split 5 (fun σ' S' e' => Known ([(25, (.bool y16))]) σ' ∧ Hp [] [] S' [(i1, [(.int .u8 a0.Tag), (.str a0.Body), (encSl e_Api_Element a0.Kids)])] [] ∧ e' = false) ?_ ?_
        · replace h := hy16
          cases hc18 : (a0.Body == [])
          · replace h := iteF h hc18
            refine WO.by rfl rfl rfl ?_
            refine WO.by rfl rfl rfl ?_
            refine WO.by rfl rfl rfl ?_
            refine WO.by rfl rfl rfl ?_
            refine WO.step (v := (.bool false)) rfl rfl ?_
            refine WO.nil ?_
            obtain rfl := Option.some.inj h
            exact ⟨(known_cons rfl known_nil), (H.sub (.cons_cons _ .slnil) .slnil), rfl⟩
          · replace h := iteT h hc18
            refine WO.go0 rfl rfl ?_
            refine WO.step (v := (.ptr i1 2)) rfl rfl ?_
            refine WO.go0 rfl rfl ?_
            refine WO.step (v := (encSl e_Api_Element a0.Kids)) rfl (stp_load rfl (H.get 0 rfl) rfl) ?_
            refine WO.go0 rfl rfl ?_
            obtain ⟨y17, hy17, h⟩ := bindS h
            refine WO.step (v := (.bool y17)) rfl (stp_call (vs := [(encSl e_Api_Element a0.Kids), (.fn (.func 32) [] [])]) rfl rfl (s31_32 ih _ hy17 (by simp only [strip_enc, st_fn, List.map_cons, List.map_nil, tupled]) _)) ?_
            refine WO.go0 rfl rfl ?_
            refine WO.step (v := (.bool (!y17))) rfl rfl ?_
            refine WO.step (v := (.bool (!y17))) rfl rfl ?_
            refine WO.nil ?_
            obtain rfl := Option.some.inj h
            exact ⟨(known_cons rfl known_nil), (H.sub (.cons_cons _ .slnil) .slnil), rfl⟩
        · rintro σ S e ⟨hk, H, rfl⟩
          replace h := hOy16
          refine WO.of_known hk ?_
          refine WO.step (v := (.bool y16)) rfl rfl ?_
          refine WO.nil ?_
          refine WC.ret ?_
          obtain rfl := Option.some.inj h
          refine KB.ret (vs := [(.bool y16)]) (res_tmp rfl res_nil) ?_
          exact rfl
-- 25 prefect/ber.deep
def F25_L0 (rc0 : Api_Element → Option Int) (k : Nat) (a25 : Sl Api_Element) (a26 : Int) : Nat → Int → Int → Option (Int × Int)
  | 0, _, _ => none
  | n + 1, x24, x27 =>
    if decide (x27 < a26) then
    Option.bind (Sl.at? a25 x27) fun y32 =>
    Option.bind (rc0 y32) fun y34 =>
    F25_L0 rc0 k a25 a26 n (imax x24 y34) (ad .i64 x27 1)
    else
    some (x24, x27)
/-- prefect/ber.deep -/
def F25 : Nat → Api_Element → Option Int
  | 0, _ => none
  | k + 1, a0 =>
    Option.bind (F25_L0 (F25 k) k a0.Kids (Sl.len a0.Kids) k 0 0) fun y36 =>
    some (ad .i64 y36.1 1)
theorem l25_L0 {rc0 : Api_Element → Option Int} (hrc0 : ∀ {a0 : Api_Element} {r : Int}, rc0 a0 = some r → ∀ {vs : List PV}, vs.map PV.strip = [(.agg [(.int .u8 a0.Tag), (.str a0.Body), (encSl e_Api_Element a0.Kids)])] → ∀ S : List SObj, evw env 25 vs S = some ((.int .i64 r), S, false)) {k : Nat} {a25 : Sl Api_Element} {a26 : Int} {S0 : List SObj} {R : List Nat} {K : KX}  {o : (Int × Int)}
    (hbrk : ∀ {σ' : Nat → PV} {S' : List SObj}, Known [(3, (.int .i64 o.1)), (9, (.int .i64 o.2))] σ' → Hp S0 R S' [] [] → K (.exit 0) σ' S' false) :
    ∀ {n : Nat} {x24 : Int} {x27 : Int}, F25_L0 rc0 k a25 a26 n x24 x27 = some o → ∀ {σ : Nat → PV} {S : List SObj}, Known [(3, (.int .i64 x24)), (7, (encSl e_Api_Element a25)), (8, (.int .i64 a26)), (9, (.int .i64 x27))] σ → Hp S0 R S [] [] → WC env ⟨20, S0.length⟩ (.loop pc25L0) σ S false K := by
  intro n
  induction n with
  | zero => intro _ _ h; cases h
  | succ n ih =>
    intro x24 x27 h σ S  hk H
    rw [F25_L0] at h
    refine WC.loop ?_
    refine WC.of_known hk ?_
    refine WC.seqR ?_
    refine WO.step (v := (.bool (decide (x27 < a26)))) rfl rfl ?_
    refine WO.nil ?_
    refine WC.seq ?_
    rcases iteS h with ⟨hc35, h⟩ | ⟨hc35, h⟩
    · refine WC.condT rfl hc35 ?_
      refine WC.skip ?_
      refine KX.seq_n ?_
      refine WC.seq ?_
      refine WC.block ?_
      refine WC.seqR ?_
      obtain ⟨y32, hy32, h⟩ := bindS h
      refine WO.step (v := (.iptr [(.int .u8 y32.Tag), (.str y32.Body), (encSl e_Api_Element y32.Kids)] 0)) rfl (stp_idxAddr rfl (isSl_enc _ _) rfl rfl rfl hy32 (e_Api_Element_cells _) rfl) ?_
      refine WO.step (v := (.agg [(.int .u8 y32.Tag), (.str y32.Body), (encSl e_Api_Element y32.Kids)])) rfl rfl ?_
      refine WO.alloc' (ti := ty25) rfl rfl rfl rfl H ?_
      intro i33 S hi33 H
      refine WO.store 0 rfl H rfl rfl rfl rfl rfl rfl rfl (Nat.le_of_ble_eq_true rfl) rfl (own_e hi33) ?_
      intro S H
      replace H : Hp S0 R _ [(i33, [(.int .u8 y32.Tag), (.str y32.Body), (encSl e_Api_Element y32.Kids)])] [] := H
      refine WO.nil ?_
      refine WC.region ?_
      refine WO.step (v := (.int .i64 x24)) rfl rfl ?_
      refine WO.step (v := (.agg [(.int .u8 y32.Tag), (.str y32.Body), (encSl e_Api_Element y32.Kids)])) rfl (stp_load rfl (H.get 0 rfl) rfl) ?_
      obtain ⟨y34, hy34, h⟩ := bindS h
      refine WO.step (v := (.int .i64 y34)) rfl (stp_call (vs := [(.agg [(.int .u8 y32.Tag), (.str y32.Body), (encSl e_Api_Element y32.Kids)])]) rfl rfl (hrc0 hy34 (by simp only [st_agg, List.map_cons, List.map_nil, st1_int, st1_str, strip1_enc, e_Api_Element_eq, tupled]) _)) ?_
      refine WO.step (v := (.int .i64 (imax x24 y34))) rfl rfl ?_
      refine WO.step (v := (.int .i64 (imax x24 y34))) rfl rfl ?_
      refine WO.nil ?_
      refine KX.block_n ?_
      refine KX.seq_n ?_
      refine WC.region ?_
      refine WO.step (v := (.int .i64 (ad .i64 x27 1))) rfl rfl ?_
      refine WO.step (v := (.int .i64 (ad .i64 x27 1))) rfl rfl ?_
      refine WO.nil ?_
      refine KX.seq_n ?_
      exact ih h  (known_cons rfl (known_cons rfl (known_cons rfl (known_cons rfl known_nil)))) (H.sub (.cons _ .slnil) .slnil)
    · refine WC.condF rfl hc35 ?_
      refine WC.exit ?_
      refine KX.seq_x ?_
      refine KX.seq_x ?_
      obtain rfl := Option.some.inj h
      exact hbrk  (known_cons rfl (known_cons rfl known_nil)) (H.sub .slnil .slnil)
theorem s25 : ∀ k : Nat, ∀ {a0 : Api_Element} {r : Int}, F25 k a0 = some r → ∀ {vs : List PV}, vs.map PV.strip = [(.agg [(.int .u8 a0.Tag), (.str a0.Body), (encSl e_Api_Element a0.Kids)])] → ∀ S : List SObj, evw env 25 vs S = some ((.int .i64 r), S, false) := by
  intro k
  induction k with
  | zero => intro _ r h; cases h
  | succ k ih =>
    intro a0 r h vs ha S
    rw [F25] at h
    refine evw_pureW (pf := fn25) rfl rfl ha (Nat.le_of_ble_eq_true rfl) (by simp [PV.clean, cleanL, clean_encSl clean_Api_Element]) rfl ?_
    refine WB.of (pf := fn25) rfl ?_
    have H := Hp.start []
    refine WC.seqR ?_
    refine WO.box' rfl rfl rfl rfl H ?_
    intro i1 S hi1 H
    refine WO.step (v := (.int .i64 0)) rfl rfl ?_
    refine WO.nil ?_
    refine WC.seqR ?_
    refine WO.step (v := (.int .i64 0)) rfl rfl ?_
    refine WO.nil ?_
    refine WC.seq ?_
    refine WC.seqR ?_
    refine WO.step (v := (.ptr i1 2)) rfl rfl ?_
    refine WO.step (v := (encSl e_Api_Element a0.Kids)) rfl (stp_load rfl (H.get 0 rfl) rfl) ?_
    refine WO.step (v := (.int .i64 (Sl.len a0.Kids))) rfl (stp_len rfl (isSl_enc _ _) rfl) ?_
    refine WO.step (v := (.int .i64 0)) rfl rfl ?_
    refine WO.nil ?_
    obtain ⟨y36, hy36, hOy36⟩ := bindS h
    refine WC.block ?_
    refine l25_L0 ih ?_ hy36  (known_cons rfl (known_cons rfl (known_cons rfl (known_cons rfl known_nil)))) (H.sub (.cons _ .slnil) .slnil)
    · intro σ S  hk H; replace h := hOy36
      refine KX.of_known hk ?_
      refine KX.block_x ?_
      refine KX.seq_n ?_
      refine WC.seqR ?_
      refine WO.step (v := (.int .i64 y36.1)) rfl rfl ?_
      refine WO.step (v := (.int .i64 (ad .i64 y36.1 1))) rfl rfl ?_
      refine WO.step (v := (.int .i64 (ad .i64 y36.1 1))) rfl rfl ?_
      refine WO.nil ?_
      refine WC.ret ?_
      obtain rfl := Option.some.inj h
      refine KB.ret (vs := [(.int .i64 (ad .i64 y36.1 1))]) (res_tmp rfl res_nil) ?_
      exact rfl
-- 33 prefect/ber.length
/-- prefect/ber.length -/
def F33 (k : Nat) (a0 : Int) : Option Str :=
  if decide (a0 < 128) then
  some (Str.of (some [cv .u8 a0]))
  else
  if decide (a0 < 256) then
  some (Str.of (some [129, cv .u8 a0]))
  else
  Option.bind (shr? .i64 a0 8) fun z23 =>
  some (Str.of (some [130, cv .u8 z23, cv .u8 a0]))
theorem s33 : ∀ k : Nat, ∀ {a0 : Int} {r : Str}, F33 k a0 = some r → ∀ {vs : List PV}, vs.map PV.strip = [(.int .i64 a0)] → ∀ S : List SObj, evw env 33 vs S = some ((.str r), S, false) := by
  intro k a0 r h vs ha S
  unfold F33 at h
  refine evw_pureW (pf := fn33) rfl rfl ha (Nat.le_of_ble_eq_true rfl) rfl rfl ?_
  refine WB.of (pf := fn33) rfl ?_
  have H := Hp.start []
  refine WC.seqR ?_
  refine WO.step (v := (.str [])) rfl rfl ?_
  refine WO.nil ?_
  refine WC.seq ?_
  refine WC.block ?_
  refine WC.seqR ?_
  refine WO.step (v := (.int .i64 a0)) rfl rfl ?_
  refine WO.step (v := (.bool (decide (a0 < 128)))) rfl rfl ?_
  refine WO.step (v := (.bool (decide (a0 < 128)))) rfl rfl ?_
  refine WO.nil ?_
  rcases iteS h with ⟨hc26, h⟩ | ⟨hc26, h⟩
  · refine WC.condT rfl hc26 ?_
    refine WC.seqR ?_
    refine WO.step (v := (.int .i64 a0)) rfl rfl ?_
    refine WO.step (v := (.int .u8 (cv .u8 a0))) rfl rfl ?_
    refine WO.step rfl (stp_buildSlice (ys := [cv .u8 a0]) (f := (eI .u8)) (parts := [(0, (.int .u8 (cv .u8 a0)))]) rfl rfl rfl rfl rfl rfl (fc ⟨rfl, rfl⟩ (fun p hp => nomatch hp)) rfl) ?_
    have hv19 : IsSl (eI .u8) (some [cv .u8 a0]) _ := ⟨.full, rfl⟩
    refine WO.step (v := (.str (Str.of (some [cv .u8 a0])))) rfl (stp_text rfl hv19 rfl rfl rfl) ?_
    refine WO.step (v := (.str (Str.of (some [cv .u8 a0])))) rfl rfl ?_
    refine WO.nil ?_
    refine WC.ret ?_
    refine KX.block_r ?_
    refine KX.seq_r ?_
    obtain rfl := Option.some.inj h
    refine KB.ret (vs := [(.str (Str.of (some [cv .u8 a0])))]) (res_tmp rfl res_nil) ?_
    exact rfl
  · refine WC.condF rfl hc26 ?_
    refine WC.seqR ?_
    refine WO.step (v := (.int .i64 a0)) rfl rfl ?_
    refine WO.step (v := (.bool (decide (a0 < 256)))) rfl rfl ?_
    refine WO.step (v := (.bool (decide (a0 < 256)))) rfl rfl ?_
    refine WO.nil ?_
    rcases iteS h with ⟨hc25, h⟩ | ⟨hc25, h⟩
    · refine WC.condT rfl hc25 ?_
      refine WC.seqR ?_
      refine WO.step (v := (.int .i64 a0)) rfl rfl ?_
      refine WO.step (v := (.int .u8 (cv .u8 a0))) rfl rfl ?_
      refine WO.step rfl (stp_buildSlice (ys := [129, cv .u8 a0]) (f := (eI .u8)) (parts := [(0, (.int .u8 129)), (1, (.int .u8 (cv .u8 a0)))]) rfl rfl rfl rfl rfl rfl (fc ⟨rfl, rfl⟩ (fc ⟨rfl, rfl⟩ (fun p hp => nomatch hp))) rfl) ?_
      have hv22 : IsSl (eI .u8) (some [129, cv .u8 a0]) _ := ⟨.full, rfl⟩
      refine WO.step (v := (.str (Str.of (some [129, cv .u8 a0])))) rfl (stp_text rfl hv22 rfl rfl rfl) ?_
      refine WO.step (v := (.str (Str.of (some [129, cv .u8 a0])))) rfl rfl ?_
      refine WO.nil ?_
      refine WC.ret ?_
      refine KX.block_r ?_
      refine KX.seq_r ?_
      obtain rfl := Option.some.inj h
      refine KB.ret (vs := [(.str (Str.of (some [129, cv .u8 a0])))]) (res_tmp rfl res_nil) ?_
      exact rfl
    · refine WC.condF rfl hc25 ?_
      refine WC.skip ?_
      refine KX.block_n ?_
      refine KX.seq_n ?_
      refine WC.seqR ?_
      refine WO.step (v := (.int .i64 a0)) rfl rfl ?_
      obtain ⟨z23, hz23, h⟩ := bindS h
      refine WO.step (v := (.int .i64 z23)) rfl (stp_shr rfl rfl hz23) ?_
      refine WO.step (v := (.int .u8 (cv .u8 z23))) rfl rfl ?_
      refine WO.step (v := (.int .i64 a0)) rfl rfl ?_
      refine WO.step (v := (.int .u8 (cv .u8 a0))) rfl rfl ?_
      refine WO.step rfl (stp_buildSlice (ys := [130, cv .u8 z23, cv .u8 a0]) (f := (eI .u8)) (parts := [(0, (.int .u8 130)), (1, (.int .u8 (cv .u8 z23))), (2, (.int .u8 (cv .u8 a0)))]) rfl rfl rfl rfl rfl rfl (fc ⟨rfl, rfl⟩ (fc ⟨rfl, rfl⟩ (fc ⟨rfl, rfl⟩ (fun p hp => nomatch hp)))) rfl) ?_
      have hv24 : IsSl (eI .u8) (some [130, cv .u8 z23, cv .u8 a0]) _ := ⟨.full, rfl⟩
      refine WO.step (v := (.str (Str.of (some [130, cv .u8 z23, cv .u8 a0])))) rfl (stp_text rfl hv24 rfl rfl rfl) ?_
      refine WO.step (v := (.str (Str.of (some [130, cv .u8 z23, cv .u8 a0])))) rfl rfl ?_
      refine WO.nil ?_
      refine WC.ret ?_
      obtain rfl := Option.some.inj h
      refine KB.ret (vs := [(.str (Str.of (some [130, cv .u8 z23, cv .u8 a0])))]) (res_tmp rfl res_nil) ?_
      exact rfl
-- 26 prefect/ber.bytes
def F26_L0 (rc0 : Api_Element → Option (Str × Bool)) (k : Nat) (a63 : Sl Api_Element) (a64 : Int) (a66 : Api_Element) : Nat → (Sl Int) → Int → Option (Out (Str × Bool) ((Sl Int) × Int))
  | 0, _, _ => none
  | n + 1, x61, x65 =>
    if decide (x65 < a64) then
    Option.bind (Sl.at? a63 x65) fun y76 =>
    Option.bind (rc0 y76) fun y78 =>
    if (!y78.2) || (decide ((ad .i64 (Sl.len x61) (Str.len y78.1)) > 4000)) then
    some (Out.ret ([], false))
    else
    Option.bind (Sl.app? 1 x61 (Sl.l (Str.bytes y78.1))) fun z81 =>
    F26_L0 rc0 k a63 a64 a66 n z81 (ad .i64 x65 1)
    else
    some (Out.brk (x61, x65))
/-- prefect/ber.bytes -/
def F26 : Nat → Api_Element → Option (Str × Bool)
  | 0, _ => none
  | k + 1, a0 =>
    Option.bind (F26_L0 (F26 k) k a0.Kids (Sl.len a0.Kids) a0 k (Str.bytes a0.Body) 0) fun y86 =>
    match y86 with
    | .ret y86r => some y86r
    | .brk y86b =>
    if decide ((Sl.len y86b.1) > 4000) then
    some ([], false)
    else
    Option.bind (F33 k (Sl.len y86b.1)) fun y90 =>
    Option.bind (Str.app? (Str.of (some [a0.Tag])) y90) fun z91 =>
    Option.bind (Str.app? z91 (Str.of y86b.1)) fun z92 =>
    some (z92, true)
theorem l26_L0 {rc0 : Api_Element → Option (Str × Bool)} (hrc0 : ∀ {a0 : Api_Element} {r : Str × Bool}, rc0 a0 = some r → ∀ {vs : List PV}, vs.map PV.strip = [(.agg [(.int .u8 a0.Tag), (.str a0.Body), (encSl e_Api_Element a0.Kids)])] → ∀ S : List SObj, evw env 26 vs S = some ((.tup [(.str r.1), (.bool r.2)]), S, false)) {k : Nat} {a63 : Sl Api_Element} {a64 : Int} {a66 : Api_Element} {S0 : List SObj} {R : List Nat} {K : KX} {i1 : Nat} (hi1 : S0.length ≤ i1)  {o : Out (Str × Bool) ((Sl Int) × Int)}
    (hret : ∀ r : Str × Bool, o = .ret r → ∀ {σ' : Nat → PV} {S' : List SObj}, Known [(2, (.str r.1)), (3, (.bool r.2))] σ' → Hp S0 R S' [] [] → K .ret σ' S' false)
    (hbrk : ∀ y : (Sl Int) × Int, o = .brk y → ∀ {σ' : Nat → PV} {S' : List SObj}, ∀ (v85 : PV) (_ : IsSl (eI .u8) y.1 v85), Known [(1, (.ptr i1 0)), (4, v85), (15, (.int .i64 y.2))] σ' → Hp S0 R S' [(i1, [(.int .u8 a66.Tag), (.str a66.Body), (encSl e_Api_Element a66.Kids)])] [(v85, 1)] → K (.exit 0) σ' S' false) :
    ∀ {n : Nat} {x61 : Sl Int} {x65 : Int}, F26_L0 rc0 k a63 a64 a66 n x61 x65 = some o → ∀ {σ : Nat → PV} {S : List SObj}, ∀ (v62 : PV) (_ : IsSl (eI .u8) x61 v62), Known [(1, (.ptr i1 0)), (4, v62), (13, (encSl e_Api_Element a63)), (14, (.int .i64 a64)), (15, (.int .i64 x65))] σ → Hp S0 R S [(i1, [(.int .u8 a66.Tag), (.str a66.Body), (encSl e_Api_Element a66.Kids)])] [(v62, 1)] → WC env ⟨52, S0.length⟩ (.loop pc26L0) σ S false K := by
  intro n
  induction n with
  | zero => intro _ _ h; cases h
  | succ n ih =>
    intro x61 x65 h σ S v62 hv62 hk H
    rw [F26_L0] at h
    refine WC.loop ?_
    refine WC.of_known hk ?_
    refine WC.seqR ?_
    refine WO.step (v := (.bool (decide (x65 < a64)))) rfl rfl ?_
    refine WO.nil ?_
    refine WC.seq ?_
    rcases iteS h with ⟨hc84, h⟩ | ⟨hc84, h⟩
    · refine WC.condT rfl hc84 ?_
      refine WC.skip ?_
      refine KX.seq_n ?_
      refine WC.seq ?_
      refine WC.block ?_
      refine WC.seqR ?_
      obtain ⟨y76, hy76, h⟩ := bindS h
      refine WO.step (v := (.iptr [(.int .u8 y76.Tag), (.str y76.Body), (encSl e_Api_Element y76.Kids)] 0)) rfl (stp_idxAddr rfl (isSl_enc _ _) rfl rfl rfl hy76 (e_Api_Element_cells _) rfl) ?_
      refine WO.step (v := (.agg [(.int .u8 y76.Tag), (.str y76.Body), (encSl e_Api_Element y76.Kids)])) rfl rfl ?_
      refine WO.alloc' (ti := ty25) rfl rfl rfl rfl H ?_
      intro i77 S hi77 H
      refine WO.store 0 rfl H rfl rfl rfl rfl rfl rfl rfl (Nat.le_of_ble_eq_true rfl) rfl (own_e hi77) ?_
      intro S H
      replace H : Hp S0 R _ [(i77, [(.int .u8 y76.Tag), (.str y76.Body), (encSl e_Api_Element y76.Kids)]), (i1, [(.int .u8 a66.Tag), (.str a66.Body), (encSl e_Api_Element a66.Kids)])] [(v62, 1)] := H
      refine WO.nil ?_
      refine WC.seqR ?_
      refine WO.step (v := (.agg [(.int .u8 y76.Tag), (.str y76.Body), (encSl e_Api_Element y76.Kids)])) rfl (stp_load rfl (H.get 0 rfl) rfl) ?_
      obtain ⟨y78, hy78, h⟩ := bindS h
      refine WO.step (v := (.tup [(.str y78.1), (.bool y78.2)])) rfl (stp_call (vs := [(.agg [(.int .u8 y76.Tag), (.str y76.Body), (encSl e_Api_Element y76.Kids)])]) rfl rfl (hrc0 hy78 (by simp only [st_agg, List.map_cons, List.map_nil, st1_int, st1_str, strip1_enc, e_Api_Element_eq, tupled]) _)) ?_
      refine WO.step (v := (.tup [(.str y78.1), (.bool y78.2)])) rfl rfl ?_
      refine WO.step (v := (.str y78.1)) rfl rfl ?_
      refine WO.step (v := (.bool y78.2)) rfl rfl ?_
      refine WO.step (v := (.str y78.1)) rfl rfl ?_
      refine WO.step (v := (.bool y78.2)) rfl rfl ?_
      refine WO.nil ?_
      refine WC.seq ?_
      refine WC.seqR ?_
      refine WO.step (v := (.bool y78.2)) rfl rfl ?_
      refine WO.step (v := (.bool (!y78.2))) rfl rfl ?_
      refine WO.step (v := (.bool (!y78.2))) rfl rfl ?_
      refine WO.split 7 (fun σ' S' e' => Known ([(1, (.ptr i1 0)), (4, v62), (7, (.str y78.1)), (13, (encSl e_Api_Element a63)), (14, (.int .i64 a64)), (15, (.int .i64 x65)), (33, (.bool ((!y78.2) || (decide ((ad .i64 (Sl.len x61) (Str.len y78.1)) > 4000)))))]) σ' ∧ Hp S0 R S' [(i77, [(.int .u8 y76.Tag), (.str y76.Body), (encSl e_Api_Element y76.Kids)]), (i1, [(.int .u8 a66.Tag), (.str a66.Body), (encSl e_Api_Element a66.Kids)])] [(v62, 1)] ∧ e' = false) ?_ ?_
      · cases hc79 : (!y78.2)
        · skip
          refine WO.go0 rfl rfl ?_
          refine WO.step (v := v62) rfl rfl ?_
          refine WO.go0 rfl rfl ?_
          refine WO.step (v := (.int .i64 (Sl.len x61))) rfl (stp_len rfl hv62 rfl) ?_
          refine WO.go0 rfl rfl ?_
          refine WO.step (v := (.str y78.1)) rfl rfl ?_
          refine WO.go0 rfl rfl ?_
          refine WO.step (v := (.int .i64 (Str.len y78.1))) rfl rfl ?_
          refine WO.go0 rfl rfl ?_
          refine WO.step (v := (.int .i64 (ad .i64 (Sl.len x61) (Str.len y78.1)))) rfl rfl ?_
          refine WO.go0 rfl rfl ?_
          refine WO.step (v := (.bool (decide ((ad .i64 (Sl.len x61) (Str.len y78.1)) > 4000)))) rfl rfl ?_
          refine WO.step (v := (.bool (decide ((ad .i64 (Sl.len x61) (Str.len y78.1)) > 4000)))) rfl rfl ?_
          refine WO.nil ?_
          exact ⟨(known_cons rfl (known_cons rfl (known_cons rfl (known_cons rfl (known_cons rfl (known_cons rfl (known_cons rfl known_nil))))))), H, rfl⟩
        · skip
          refine WO.by rfl rfl rfl ?_
          refine WO.by rfl rfl rfl ?_
          refine WO.by rfl rfl rfl ?_
          refine WO.by rfl rfl rfl ?_
          refine WO.by rfl rfl rfl ?_
          refine WO.by rfl rfl rfl ?_
          refine WO.step (v := (.bool true)) rfl rfl ?_
          refine WO.nil ?_
          exact ⟨(known_cons rfl (known_cons rfl (known_cons rfl (known_cons rfl (known_cons rfl (known_cons rfl (known_cons rfl known_nil))))))), H, rfl⟩
      · rintro σ S e ⟨hk, H, rfl⟩
        refine WO.of_known hk ?_
        refine WO.nil ?_
        rcases iteS h with ⟨hc83, h⟩ | ⟨hc83, h⟩
        · refine WC.condT rfl hc83 ?_
          refine WC.seqR ?_
          refine WO.step (v := (.str [])) rfl rfl ?_
          refine WO.step (v := (.bool false)) rfl rfl ?_
          refine WO.nil ?_
          refine WC.ret ?_
          refine KX.seq_r ?_
          refine KX.block_r ?_
          refine KX.seq_r ?_
          refine KX.seq_r ?_
          obtain rfl := Option.some.inj h
          exact hret _ rfl (known_cons rfl (known_cons rfl known_nil)) (H.sub (.cons _ (.cons _ .slnil)) (.cons _ .slnil))
        · refine WC.condF rfl hc83 ?_
          refine WC.skip ?_
          refine KX.seq_n ?_
          refine WC.region ?_
          refine WO.step (v := v62) rfl rfl ?_
          refine WO.step (v := (.str y78.1)) rfl rfl ?_
          obtain ⟨z81, hz81, h⟩ := bindS h
          refine WO.ex rfl (stp_appStr (ei := ty5) H 0 rfl rfl hv62 rfl rfl rfl rfl rfl hz81) ?_
          rintro v82 S ⟨hv82, H⟩
          replace H : Hp S0 R _ [(i77, [(.int .u8 y76.Tag), (.str y76.Body), (encSl e_Api_Element y76.Kids)]), (i1, [(.int .u8 a66.Tag), (.str a66.Body), (encSl e_Api_Element a66.Kids)])] [(v82, 1)] := H
          refine WO.step (v := v82) rfl rfl ?_
          refine WO.nil ?_
          refine KX.block_n ?_
          refine KX.seq_n ?_
          refine WC.region ?_
          refine WO.step (v := (.int .i64 (ad .i64 x65 1))) rfl rfl ?_
          refine WO.step (v := (.int .i64 (ad .i64 x65 1))) rfl rfl ?_
          refine WO.nil ?_
          refine KX.seq_n ?_
          exact ih h v82 (hv82) (known_cons rfl (known_cons rfl (known_cons rfl (known_cons rfl (known_cons rfl known_nil))))) (H.sub (.cons _ (.cons_cons _ .slnil)) (.cons_cons _ .slnil))
    · refine WC.condF rfl hc84 ?_
      refine WC.exit ?_
      refine KX.seq_x ?_
      refine KX.seq_x ?_
      obtain rfl := Option.some.inj h
      exact hbrk _ rfl v62 (hv62) (known_cons rfl (known_cons rfl (known_cons rfl known_nil))) (H.sub (.cons_cons _ .slnil) (.cons_cons _ .slnil))
theorem s26 : ∀ k : Nat, ∀ {a0 : Api_Element} {r : Str × Bool}, F26 k a0 = some r → ∀ {vs : List PV}, vs.map PV.strip = [(.agg [(.int .u8 a0.Tag), (.str a0.Body), (encSl e_Api_Element a0.Kids)])] → ∀ S : List SObj, evw env 26 vs S = some ((.tup [(.str r.1), (.bool r.2)]), S, false) := by
  intro k
  induction k with
  | zero => intro _ r h; cases h
  | succ k ih =>
    intro a0 r h vs ha S
    rw [F26] at h
    refine evw_pureW (pf := fn26) rfl rfl ha (Nat.le_of_ble_eq_true rfl) (by simp [PV.clean, cleanL, clean_encSl clean_Api_Element]) rfl ?_
    refine WB.of (pf := fn26) rfl ?_
    have H := Hp.start []
    refine WC.seqR ?_
    refine WO.box' rfl rfl rfl rfl H ?_
    intro i1 S hi1 H
    refine WO.step (v := (.str [])) rfl rfl ?_
    refine WO.step (v := (.bool false)) rfl rfl ?_
    refine WO.nil ?_
    refine WC.seqR ?_
    refine WO.step (v := (.ptr i1 1)) rfl rfl ?_
    refine WO.step (v := (.str a0.Body)) rfl (stp_load rfl (H.get 0 rfl) rfl) ?_
    refine WO.ex rfl (stp_bytes rfl rfl rfl rfl H) ?_
    rintro v2 S ⟨hv2, H⟩
    replace H : Hp [] [] _ [(i1, [(.int .u8 a0.Tag), (.str a0.Body), (encSl e_Api_Element a0.Kids)])] [(v2, 1)] := H
    refine WO.step (v := v2) rfl rfl ?_
    refine WO.nil ?_
    refine WC.seq ?_
    refine WC.seqR ?_
    refine WO.step (v := (.ptr i1 2)) rfl rfl ?_
    refine WO.step (v := (encSl e_Api_Element a0.Kids)) rfl (stp_load rfl (H.get 0 rfl) rfl) ?_
    refine WO.step (v := (.int .i64 (Sl.len a0.Kids))) rfl (stp_len rfl (isSl_enc _ _) rfl) ?_
    refine WO.step (v := (.int .i64 0)) rfl rfl ?_
    refine WO.nil ?_
    obtain ⟨y86, hy86, hOy86⟩ := bindS h
    refine WC.block ?_
    refine l26_L0 ih hi1 ?_ ?_ hy86 v2 (hv2) (known_cons rfl (known_cons rfl (known_cons rfl (known_cons rfl (known_cons rfl known_nil))))) (H.sub (.cons_cons _ .slnil) (.cons_cons _ .slnil))
    · intro y86r he σ S  hk H; subst he; replace h := hOy86; dsimp only at h
      refine KX.of_known hk ?_
      refine KX.block_r ?_
      refine KX.seq_r ?_
      obtain rfl := Option.some.inj h
      refine KB.ret (vs := [(.str y86r.1), (.bool y86r.2)]) (res_tmp rfl (res_tmp rfl res_nil)) ?_
      exact rfl
    · intro y86b he σ S v87 hv87 hk H; subst he; replace h := hOy86; dsimp only at h
      refine KX.of_known hk ?_
      refine KX.block_x ?_
      refine KX.seq_n ?_
      refine WC.seq ?_
      refine WC.seqR ?_
      refine WO.step (v := v87) rfl rfl ?_
      refine WO.step (v := (.int .i64 (Sl.len y86b.1))) rfl (stp_len rfl hv87 rfl) ?_
      refine WO.step (v := (.bool (decide ((Sl.len y86b.1) > 4000)))) rfl rfl ?_
      refine WO.nil ?_
      rcases iteS h with ⟨hc93, h⟩ | ⟨hc93, h⟩
      · refine WC.condT rfl hc93 ?_
        refine WC.seqR ?_
        refine WO.step (v := (.str [])) rfl rfl ?_
        refine WO.step (v := (.bool false)) rfl rfl ?_
        refine WO.nil ?_
        refine WC.ret ?_
        refine KX.seq_r ?_
        obtain rfl := Option.some.inj h
        refine KB.ret (vs := [(.str []), (.bool false)]) (res_tmp rfl (res_tmp rfl res_nil)) ?_
        exact rfl
      · refine WC.condF rfl hc93 ?_
        refine WC.skip ?_
        refine KX.seq_n ?_
        refine WC.seq ?_
        refine WC.draw ?_
        refine WH.step (v := (.ptr i1 0)) rfl rfl rfl rfl ?_
        refine WH.step (v := (.int .u8 a0.Tag)) rfl (stp_load rfl (H.get 0 rfl) rfl) rfl rfl ?_
        refine WH.step rfl (stp_buildSlice (ys := [a0.Tag]) (f := (eI .u8)) (parts := [(0, (.int .u8 a0.Tag))]) rfl rfl rfl rfl rfl rfl (fc ⟨rfl, rfl⟩ (fun p hp => nomatch hp)) rfl) rfl rfl ?_
        have hv89 : IsSl (eI .u8) (some [a0.Tag]) _ := ⟨.full, rfl⟩
        refine WH.step (v := (.str (Str.of (some [a0.Tag])))) rfl (stp_text rfl hv89 rfl rfl rfl) rfl rfl ?_
        refine WH.step (v := v87) rfl rfl rfl rfl ?_
        refine WH.step (v := (.int .i64 (Sl.len y86b.1))) rfl (stp_len rfl hv87 rfl) rfl rfl ?_
        obtain ⟨y90, hy90, h⟩ := bindS h
        refine WH.step (v := (.str y90)) rfl (stp_call (vs := [(.int .i64 (Sl.len y86b.1))]) rfl rfl (s33 _ hy90 rfl _)) rfl rfl ?_
        obtain ⟨z91, hz91, h⟩ := bindS h
        refine WH.step (v := (.str z91)) rfl (stp_strApp rfl rfl hz91) rfl rfl ?_
        refine WH.step (v := v87) rfl rfl rfl rfl ?_
        refine WH.step (v := (.str (Str.of y86b.1))) rfl (stp_text rfl hv87 rfl rfl rfl) rfl rfl ?_
        refine WH.nil ?_
        obtain ⟨z92, hz92, h⟩ := bindS h
        refine WO.step (v := (.str z92)) rfl (stp_strApp rfl rfl hz92) ?_
        refine WO.step (v := (.str z92)) rfl rfl ?_
        refine WO.step (v := (.bool true)) rfl rfl ?_
        refine WO.nil ?_
        refine KX.seq_n ?_
        refine WC.ret ?_
        obtain rfl := Option.some.inj h
        refine KB.ret (vs := [(.str z92), (.bool true)]) (res_tmp rfl (res_tmp rfl res_nil)) ?_
        exact rfl
-- 17 prefect/ber.Write
/-- prefect/ber.Write -/
def F17 (k : Nat) (a0 : Api_Element) : Option (Str × Int) :=
  Option.bind (F24 k a0) fun y2 =>
  if !y2 then
  some ([], 14)
  else
  Option.bind (F25 k a0) fun y4 =>
  if decide (y4 > 20) then
  some ([], 12)
  else
  Option.bind (F26 k a0) fun y6 =>
  if !y6.2 then
  some ([], 13)
  else
  some (y6.1, 0)
theorem s17 : ∀ k : Nat, ∀ {a0 : Api_Element} {r : Str × Int}, F17 k a0 = some r → ∀ {vs : List PV}, vs.map PV.strip = [(.agg [(.int .u8 a0.Tag), (.str a0.Body), (encSl e_Api_Element a0.Kids)])] → ∀ S : List SObj, evw env 17 vs S = some ((.tup [(.str r.1), (.int .i64 r.2)]), S, false) := by
  intro k a0 r h vs ha S
  unfold F17 at h
  refine evw_pureW (pf := fn17) rfl rfl ha (Nat.le_of_ble_eq_true rfl) (by simp [PV.clean, cleanL, clean_encSl clean_Api_Element]) rfl ?_
  refine WB.of (pf := fn17) rfl ?_
  have H := Hp.start []
  refine WC.seqR ?_
  refine WO.box' rfl rfl rfl rfl H ?_
  intro i1 S hi1 H
  refine WO.step (v := (.str [])) rfl rfl ?_
  refine WO.step (v := (.int .i64 0)) rfl rfl ?_
  refine WO.nil ?_
  refine WC.seq ?_
  refine WC.seqR ?_
  refine WO.step (v := (.agg [(.int .u8 a0.Tag), (.str a0.Body), (encSl e_Api_Element a0.Kids)])) rfl (stp_load rfl (H.get 0 rfl) rfl) ?_
  obtain ⟨y2, hy2, h⟩ := bindS h
  refine WO.step (v := (.bool y2)) rfl (stp_call (vs := [(.agg [(.int .u8 a0.Tag), (.str a0.Body), (encSl e_Api_Element a0.Kids)])]) rfl rfl (s24 _ hy2 (by simp only [st_agg, List.map_cons, List.map_nil, st1_int, st1_str, strip1_enc, e_Api_Element_eq, tupled]) _)) ?_
  refine WO.step (v := (.bool (!y2))) rfl rfl ?_
  refine WO.nil ?_
  rcases iteS h with ⟨hc10, h⟩ | ⟨hc10, h⟩
  · refine WC.condT rfl hc10 ?_
    refine WC.seqR ?_
    refine WO.step (v := (.str [])) rfl rfl ?_
    refine WO.step (v := (.int .i64 14)) rfl rfl ?_
    refine WO.nil ?_
    refine WC.ret ?_
    refine KX.seq_r ?_
    obtain rfl := Option.some.inj h
    refine KB.ret (vs := [(.str []), (.int .i64 14)]) (res_tmp rfl (res_tmp rfl res_nil)) ?_
    exact rfl
  · refine WC.condF rfl hc10 ?_
    refine WC.skip ?_
    refine KX.seq_n ?_
    refine WC.seq ?_
    refine WC.seqR ?_
    refine WO.step (v := (.agg [(.int .u8 a0.Tag), (.str a0.Body), (encSl e_Api_Element a0.Kids)])) rfl (stp_load rfl (H.get 0 rfl) rfl) ?_
    obtain ⟨y4, hy4, h⟩ := bindS h
    refine WO.step (v := (.int .i64 y4)) rfl (stp_call (vs := [(.agg [(.int .u8 a0.Tag), (.str a0.Body), (encSl e_Api_Element a0.Kids)])]) rfl rfl (s25 _ hy4 (by simp only [st_agg, List.map_cons, List.map_nil, st1_int, st1_str, strip1_enc, e_Api_Element_eq, tupled]) _)) ?_
    refine WO.step (v := (.bool (decide (y4 > 20)))) rfl rfl ?_
    refine WO.nil ?_
    rcases iteS h with ⟨hc9, h⟩ | ⟨hc9, h⟩
    · refine WC.condT rfl hc9 ?_
      refine WC.seqR ?_
      refine WO.step (v := (.str [])) rfl rfl ?_
      refine WO.step (v := (.int .i64 12)) rfl rfl ?_
      refine WO.nil ?_
      refine WC.ret ?_
      refine KX.seq_r ?_
      obtain rfl := Option.some.inj h
      refine KB.ret (vs := [(.str []), (.int .i64 12)]) (res_tmp rfl (res_tmp rfl res_nil)) ?_
      exact rfl
    · refine WC.condF rfl hc9 ?_
      refine WC.skip ?_
      refine KX.seq_n ?_
      refine WC.seqR ?_
      refine WO.step (v := (.agg [(.int .u8 a0.Tag), (.str a0.Body), (encSl e_Api_Element a0.Kids)])) rfl (stp_load rfl (H.get 0 rfl) rfl) ?_
      obtain ⟨y6, hy6, h⟩ := bindS h
      refine WO.step (v := (.tup [(.str y6.1), (.bool y6.2)])) rfl (stp_call (vs := [(.agg [(.int .u8 a0.Tag), (.str a0.Body), (encSl e_Api_Element a0.Kids)])]) rfl rfl (s26 _ hy6 (by simp only [st_agg, List.map_cons, List.map_nil, st1_int, st1_str, strip1_enc, e_Api_Element_eq, tupled]) _)) ?_
      refine WO.step (v := (.tup [(.str y6.1), (.bool y6.2)])) rfl rfl ?_
      refine WO.step (v := (.str y6.1)) rfl rfl ?_
      refine WO.step (v := (.bool y6.2)) rfl rfl ?_
      refine WO.step (v := (.str y6.1)) rfl rfl ?_
      refine WO.step (v := (.bool y6.2)) rfl rfl ?_
      refine WO.nil ?_
      refine WC.seq ?_
      refine WC.seqR ?_
      refine WO.step (v := (.bool y6.2)) rfl rfl ?_
      refine WO.step (v := (.bool (!y6.2))) rfl rfl ?_
      refine WO.nil ?_
      rcases iteS h with ⟨hc8, h⟩ | ⟨hc8, h⟩
      · refine WC.condT rfl hc8 ?_
        refine WC.seqR ?_
        refine WO.step (v := (.str [])) rfl rfl ?_
        refine WO.step (v := (.int .i64 13)) rfl rfl ?_
        refine WO.nil ?_
        refine WC.ret ?_
        refine KX.seq_r ?_
        obtain rfl := Option.some.inj h
        refine KB.ret (vs := [(.str []), (.int .i64 13)]) (res_tmp rfl (res_tmp rfl res_nil)) ?_
        exact rfl
      · refine WC.condF rfl hc8 ?_
        refine WC.skip ?_
        refine KX.seq_n ?_
        refine WC.seqR ?_
        refine WO.step (v := (.str y6.1)) rfl rfl ?_
        refine WO.step (v := (.str y6.1)) rfl rfl ?_
        refine WO.step (v := (.int .i64 0)) rfl rfl ?_
        refine WO.nil ?_
        refine WC.ret ?_
        obtain rfl := Option.some.inj h
        refine KB.ret (vs := [(.str y6.1), (.int .i64 0)]) (res_tmp rfl (res_tmp rfl res_nil)) ?_
        exact rfl
-- 19 prefect/ber.Is
/-- prefect/ber.Is -/
def F19 (k : Nat) (a0 : Api_Element) : Option Bool :=
  Option.bind (F17 k a0) fun y2 =>
  some (y2.2 == 0)
theorem s19 : ∀ k : Nat, ∀ {a0 : Api_Element} {r : Bool}, F19 k a0 = some r → ∀ {vs : List PV}, vs.map PV.strip = [(.agg [(.int .u8 a0.Tag), (.str a0.Body), (encSl e_Api_Element a0.Kids)])] → ∀ S : List SObj, evw env 19 vs S = some ((.bool r), S, false) := by
  intro k a0 r h vs ha S
  unfold F19 at h
  refine evw_pureW (pf := fn19) rfl rfl ha (Nat.le_of_ble_eq_true rfl) (by simp [PV.clean, cleanL, clean_encSl clean_Api_Element]) rfl ?_
  refine WB.of (pf := fn19) rfl ?_
  have H := Hp.start []
  refine WC.seqR ?_
  refine WO.box' rfl rfl rfl rfl H ?_
  intro i1 S hi1 H
  refine WO.step (v := (.bool false)) rfl rfl ?_
  refine WO.nil ?_
  refine WC.seqR ?_
  refine WO.step (v := (.agg [(.int .u8 a0.Tag), (.str a0.Body), (encSl e_Api_Element a0.Kids)])) rfl (stp_load rfl (H.get 0 rfl) rfl) ?_
  obtain ⟨y2, hy2, h⟩ := bindS h
  refine WO.step (v := (.tup [(.str y2.1), (.int .i64 y2.2)])) rfl (stp_call (vs := [(.agg [(.int .u8 a0.Tag), (.str a0.Body), (encSl e_Api_Element a0.Kids)])]) rfl rfl (s17 _ hy2 (by simp only [st_agg, List.map_cons, List.map_nil, st1_int, st1_str, strip1_enc, e_Api_Element_eq, tupled]) _)) ?_
  refine WO.step (v := (.tup [(.str y2.1), (.int .i64 y2.2)])) rfl rfl ?_
  refine WO.step (v := (.str y2.1)) rfl rfl ?_
  refine WO.step (v := (.int .i64 y2.2)) rfl rfl ?_
  refine WO.step (v := (.str y2.1)) rfl rfl ?_
  refine WO.step (v := (.int .i64 y2.2)) rfl rfl ?_
  refine WO.nil ?_
  refine WC.seqR ?_
  refine WO.step (v := (.int .i64 y2.2)) rfl rfl ?_
  refine WO.step (v := (.bool (y2.2 == 0))) rfl rfl ?_
  refine WO.step (v := (.bool (y2.2 == 0))) rfl rfl ?_
  refine WO.nil ?_
  refine WC.ret ?_
  obtain rfl := Option.some.inj h
  refine KB.ret (vs := [(.bool (y2.2 == 0))]) (res_tmp rfl res_nil) ?_
  exact rfl
-- 29_20 slices.EqualFunc[[]prefect/api.Element,[]prefect/api.Element,prefect/api.Element,prefect/api.Element]
def F29_20_L0 (rc0 : Api_Element → Api_Element → Option Bool) (k : Nat) (a41 : Sl Api_Element) (a42 : Sl Api_Element) (a43 : Int) : Nat → Int → Option (Out Bool Int)
  | 0, _ => none
  | n + 1, x44 =>
    if decide (x44 < a43) then
    Option.bind (Sl.at? a42 x44) fun y53 =>
    Option.bind (Sl.at? a41 x44) fun y55 =>
    Option.bind (rc0 y53 y55) fun y57 =>
    if !y57 then
    some (Out.ret false)
    else
    F29_20_L0 rc0 k a41 a42 a43 n (ad .i64 x44 1)
    else
    some (Out.brk x44)
/-- slices.EqualFunc[[]prefect/api.Element,[]prefect/api.Element,prefect/api.Element,prefect/api.Element] -/
def F29_20 (k : Nat) (rc0 : Api_Element → Api_Element → Option Bool) (a0 : Sl Api_Element) (a1 : Sl Api_Element) : Option Bool :=
  if (Sl.len a0) != (Sl.len a1) then
  some false
  else
  Option.bind (F29_20_L0 rc0 k a1 a0 (Sl.len a0) k 0) fun y61 =>
  match y61 with
  | .ret y61r => some y61r
  | .brk y61b =>
  some true
theorem l29_20_L0 {rc0 : Api_Element → Api_Element → Option Bool} (hrc0 : ∀ {a0 : Api_Element} {a1 : Api_Element} {r : Bool}, rc0 a0 a1 = some r → ∀ {vs : List PV}, vs.map PV.strip = [(.agg [(.int .u8 a0.Tag), (.str a0.Body), (encSl e_Api_Element a0.Kids)]), (.agg [(.int .u8 a1.Tag), (.str a1.Body), (encSl e_Api_Element a1.Kids)])] → ∀ S : List SObj, evw env 20 vs S = some ((.bool r), S, false)) {k : Nat} {a41 : Sl Api_Element} {a42 : Sl Api_Element} {a43 : Int} {S0 : List SObj} {R : List Nat} {K : KX}  {o : Out Bool Int}
    (hret : ∀ r : Bool, o = .ret r → ∀ {σ' : Nat → PV} {S' : List SObj}, Known [(6, (.bool r))] σ' → Hp S0 R S' [] [] → K .ret σ' S' false)
    (hbrk : ∀ y : Int, o = .brk y → ∀ {σ' : Nat → PV} {S' : List SObj}, Known [(17, (.int .i64 y))] σ' → Hp S0 R S' [] [] → K (.exit 0) σ' S' false) :
    ∀ {n : Nat} {x44 : Int}, F29_20_L0 rc0 k a41 a42 a43 n x44 = some o → ∀ {σ : Nat → PV} {S : List SObj}, Known [(1, (encSl e_Api_Element a41)), (2, (.fn (.func 20) [] [])), (15, (encSl e_Api_Element a42)), (16, (.int .i64 a43)), (17, (.int .i64 x44))] σ → Hp S0 R S [] [] → WC env ⟨32, S0.length⟩ (.loop pc29L0) σ S false K := by
  intro n
  induction n with
  | zero => intro _ h; cases h
  | succ n ih =>
    intro x44 h σ S  hk H
    rw [F29_20_L0] at h
    refine WC.loop ?_
    refine WC.of_known hk ?_
    refine WC.seqR ?_
    refine WO.step (v := (.bool (decide (x44 < a43)))) rfl rfl ?_
    refine WO.nil ?_
    refine WC.seq ?_
    rcases iteS h with ⟨hc60, h⟩ | ⟨hc60, h⟩
    · refine WC.condT rfl hc60 ?_
      refine WC.skip ?_
      refine KX.seq_n ?_
      refine WC.seq ?_
      refine WC.block ?_
      refine WC.seqR ?_
      refine WO.step (v := (.int .i64 x44)) rfl rfl ?_
      obtain ⟨y53, hy53, h⟩ := bindS h
      refine WO.step (v := (.iptr [(.int .u8 y53.Tag), (.str y53.Body), (encSl e_Api_Element y53.Kids)] 0)) rfl (stp_idxAddr rfl (isSl_enc _ _) rfl rfl rfl hy53 (e_Api_Element_cells _) rfl) ?_
      refine WO.step (v := (.agg [(.int .u8 y53.Tag), (.str y53.Body), (encSl e_Api_Element y53.Kids)])) rfl rfl ?_
      refine WO.alloc' (ti := ty25) rfl rfl rfl rfl H ?_
      intro i54 S hi54 H
      refine WO.step (v := (.int .i64 x44)) rfl rfl ?_
      refine WO.store 0 rfl H rfl rfl rfl rfl rfl rfl rfl (Nat.le_of_ble_eq_true rfl) rfl (own_e hi54) ?_
      intro S H
      replace H : Hp S0 R _ [(i54, [(.int .u8 y53.Tag), (.str y53.Body), (encSl e_Api_Element y53.Kids)])] [] := H
      refine WO.nil ?_
      refine WC.seqR ?_
      refine WO.step (v := (encSl e_Api_Element a41)) rfl rfl ?_
      refine WO.step (v := (.int .i64 x44)) rfl rfl ?_
      obtain ⟨y55, hy55, h⟩ := bindS h
      refine WO.step (v := (.iptr [(.int .u8 y55.Tag), (.str y55.Body), (encSl e_Api_Element y55.Kids)] 0)) rfl (stp_idxAddr rfl (isSl_enc _ _) rfl rfl rfl hy55 (e_Api_Element_cells _) rfl) ?_
      refine WO.step (v := (.agg [(.int .u8 y55.Tag), (.str y55.Body), (encSl e_Api_Element y55.Kids)])) rfl rfl ?_
      refine WO.alloc' (ti := ty25) rfl rfl rfl rfl H ?_
      intro i56 S hi56 H
      refine WO.store 0 rfl H rfl rfl rfl rfl rfl rfl rfl (Nat.le_of_ble_eq_true rfl) rfl (own_e hi56) ?_
      intro S H
      replace H : Hp S0 R _ [(i56, [(.int .u8 y55.Tag), (.str y55.Body), (encSl e_Api_Element y55.Kids)]), (i54, [(.int .u8 y53.Tag), (.str y53.Body), (encSl e_Api_Element y53.Kids)])] [] := H
      refine WO.nil ?_
      refine WC.seqR ?_
      refine WO.step (v := (.fn (.func 20) [] [])) rfl rfl ?_
      refine WO.step (v := (.agg [(.int .u8 y53.Tag), (.str y53.Body), (encSl e_Api_Element y53.Kids)])) rfl (stp_load rfl (H.get 1 rfl) rfl) ?_
      refine WO.step (v := (.agg [(.int .u8 y55.Tag), (.str y55.Body), (encSl e_Api_Element y55.Kids)])) rfl (stp_load rfl (H.get 0 rfl) rfl) ?_
      obtain ⟨y57, hy57, h⟩ := bindS h
      refine WO.step (v := (.bool y57)) rfl (stp_call (vs := [(.agg [(.int .u8 y53.Tag), (.str y53.Body), (encSl e_Api_Element y53.Kids)]), (.agg [(.int .u8 y55.Tag), (.str y55.Body), (encSl e_Api_Element y55.Kids)])]) rfl rfl (hrc0 hy57 (by simp only [st_agg, List.map_cons, List.map_nil, st1_int, st1_str, strip1_enc, e_Api_Element_eq, tupled]) _)) ?_
      refine WO.step (v := (.bool (!y57))) rfl rfl ?_
      refine WO.nil ?_
      rcases iteS h with ⟨hc59, h⟩ | ⟨hc59, h⟩
      · refine WC.condT rfl hc59 ?_
        refine WC.seqR ?_
        refine WO.step (v := (.bool false)) rfl rfl ?_
        refine WO.nil ?_
        refine WC.ret ?_
        refine KX.block_r ?_
        refine KX.seq_r ?_
        refine KX.seq_r ?_
        obtain rfl := Option.some.inj h
        exact hret _ rfl (known_cons rfl known_nil) (H.sub (.cons _ (.cons _ .slnil)) .slnil)
      · refine WC.condF rfl hc59 ?_
        refine WC.skip ?_
        refine KX.block_n ?_
        refine KX.seq_n ?_
        refine WC.region ?_
        refine WO.step (v := (.int .i64 (ad .i64 x44 1))) rfl rfl ?_
        refine WO.step (v := (.int .i64 (ad .i64 x44 1))) rfl rfl ?_
        refine WO.nil ?_
        refine KX.seq_n ?_
        exact ih h  (known_cons rfl (known_cons rfl (known_cons rfl (known_cons rfl (known_cons rfl known_nil))))) (H.sub (.cons _ (.cons _ .slnil)) .slnil)
    · refine WC.condF rfl hc60 ?_
      refine WC.exit ?_
      refine KX.seq_x ?_
      refine KX.seq_x ?_
      obtain rfl := Option.some.inj h
      exact hbrk _ rfl  (known_cons rfl known_nil) (H.sub .slnil .slnil)
theorem s29_20 {rc0 : Api_Element → Api_Element → Option Bool} (hrc0 : ∀ {a0 : Api_Element} {a1 : Api_Element} {r : Bool}, rc0 a0 a1 = some r → ∀ {vs : List PV}, vs.map PV.strip = [(.agg [(.int .u8 a0.Tag), (.str a0.Body), (encSl e_Api_Element a0.Kids)]), (.agg [(.int .u8 a1.Tag), (.str a1.Body), (encSl e_Api_Element a1.Kids)])] → ∀ S : List SObj, evw env 20 vs S = some ((.bool r), S, false))  : ∀ k : Nat, ∀ {a0 : Sl Api_Element} {a1 : Sl Api_Element} {r : Bool}, F29_20 k rc0 a0 a1 = some r → ∀ {vs : List PV}, vs.map PV.strip = [(encSl e_Api_Element a0), (encSl e_Api_Element a1), (.fn (.func 20) [] [])] → ∀ S : List SObj, evw env 29 vs S = some ((.bool r), S, false) := by
  intro k a0 a1 r h vs ha S
  unfold F29_20 at h
  refine evw_pureW (pf := fn29) rfl rfl ha (Nat.le_of_ble_eq_true rfl) (by simp [PV.clean, cleanL, clean_encSl clean_Api_Element]) rfl ?_
  refine WB.of (pf := fn29) rfl ?_
  have H := Hp.start []
  refine WC.seqR ?_
  refine WO.step (v := (.bool false)) rfl rfl ?_
  refine WO.nil ?_
  refine WC.seq ?_
  refine WC.seqR ?_
  refine WO.step (v := (encSl e_Api_Element a0)) rfl rfl ?_
  refine WO.step (v := (.int .i64 (Sl.len a0))) rfl (stp_len rfl (isSl_enc _ _) rfl) ?_
  refine WO.step (v := (encSl e_Api_Element a1)) rfl rfl ?_
  refine WO.step (v := (.int .i64 (Sl.len a1))) rfl (stp_len rfl (isSl_enc _ _) rfl) ?_
  refine WO.step (v := (.bool ((Sl.len a0) != (Sl.len a1)))) rfl rfl ?_
  refine WO.nil ?_
  rcases iteS h with ⟨hc62, h⟩ | ⟨hc62, h⟩
  · refine WC.condT rfl hc62 ?_
    refine WC.seqR ?_
    refine WO.step (v := (.bool false)) rfl rfl ?_
    refine WO.nil ?_
    refine WC.ret ?_
    refine KX.seq_r ?_
    obtain rfl := Option.some.inj h
    refine KB.ret (vs := [(.bool false)]) (res_tmp rfl res_nil) ?_
    exact rfl
  · refine WC.condF rfl hc62 ?_
    refine WC.skip ?_
    refine KX.seq_n ?_
    refine WC.seq ?_
    refine WC.seqR ?_
    refine WO.step (v := (encSl e_Api_Element a0)) rfl rfl ?_
    refine WO.step (v := (.int .i64 (Sl.len a0))) rfl (stp_len rfl (isSl_enc _ _) rfl) ?_
    refine WO.step (v := (.int .i64 0)) rfl rfl ?_
    refine WO.nil ?_
    obtain ⟨y61, hy61, hOy61⟩ := bindS h
    refine WC.block ?_
    refine l29_20_L0 hrc0 ?_ ?_ hy61  (known_cons rfl (known_cons rfl (known_cons rfl (known_cons rfl (known_cons rfl known_nil))))) (H.sub .slnil .slnil)
    · intro y61r he σ S  hk H; subst he; replace h := hOy61; dsimp only at h
      refine KX.of_known hk ?_
      refine KX.block_r ?_
      refine KX.seq_r ?_
      obtain rfl := Option.some.inj h
      refine KB.ret (vs := [(.bool y61r)]) (res_tmp rfl res_nil) ?_
      exact rfl
    · intro y61b he σ S  hk H; subst he; replace h := hOy61; dsimp only at h
      refine KX.of_known hk ?_
      refine KX.block_x ?_
      refine KX.seq_n ?_
      refine WC.seqR ?_
      refine WO.step (v := (.bool true)) rfl rfl ?_
      refine WO.nil ?_
      refine WC.ret ?_
      obtain rfl := Option.some.inj h
      refine KB.ret (vs := [(.bool true)]) (res_tmp rfl res_nil) ?_
      exact rfl
-- 20 prefect/ber.Same
/-- prefect/ber.Same -/
def F20 : Nat → Api_Element → Api_Element → Option Bool
  | 0, _, _ => none
  | k + 1, a0, a1 =>
    Option.bind (if (a0.Tag == a1.Tag) && (a0.Body == a1.Body) then
    Option.bind (F29_20 k (F20 k) a0.Kids a1.Kids) fun y9 =>
    some y9
    else
    some false) fun y8 =>
    some y8
theorem s20 : ∀ k : Nat, ∀ {a0 : Api_Element} {a1 : Api_Element} {r : Bool}, F20 k a0 a1 = some r → ∀ {vs : List PV}, vs.map PV.strip = [(.agg [(.int .u8 a0.Tag), (.str a0.Body), (encSl e_Api_Element a0.Kids)]), (.agg [(.int .u8 a1.Tag), (.str a1.Body), (encSl e_Api_Element a1.Kids)])] → ∀ S : List SObj, evw env 20 vs S = some ((.bool r), S, false) := by
  intro k
  induction k with
  | zero => intro _ _ r h; cases h
  | succ k ih =>
    intro a0 a1 r h vs ha S
    rw [F20] at h
    refine evw_pureW (pf := fn20) rfl rfl ha (Nat.le_of_ble_eq_true rfl) (by simp [PV.clean, cleanL, clean_encSl clean_Api_Element]) rfl ?_
    refine WB.of (pf := fn20) rfl ?_
    have H := Hp.start []
    refine WC.seqR ?_
    refine WO.box' rfl rfl rfl rfl H ?_
    intro i1 S hi1 H
    refine WO.box' rfl rfl rfl rfl H ?_
    intro i2 S hi2 H
    refine WO.step (v := (.bool false)) rfl rfl ?_
    refine WO.nil ?_
    refine WC.seqR ?_
    refine WO.step (v := (.ptr i1 0)) rfl rfl ?_
    refine WO.step (v := (.int .u8 a0.Tag)) rfl (stp_load rfl (H.get 1 rfl) rfl) ?_
    refine WO.step (v := (.ptr i2 0)) rfl rfl ?_
    refine WO.step (v := (.int .u8 a1.Tag)) rfl (stp_load rfl (H.get 0 rfl) rfl) ?_
    refine WO.step (v := (.bool (a0.Tag == a1.Tag))) rfl rfl ?_
    refine WO.step (v := (.bool (a0.Tag == a1.Tag))) rfl rfl ?_
    refine WO.split 6 (fun σ' S' e' => Known ([(2, (.ptr i1 0)), (3, (.ptr i2 0)), (16, (.bool ((a0.Tag == a1.Tag) && (a0.Body == a1.Body))))]) σ' ∧ Hp [] [] S' [(i2, [(.int .u8 a1.Tag), (.str a1.Body), (encSl e_Api_Element a1.Kids)]), (i1, [(.int .u8 a0.Tag), (.str a0.Body), (encSl e_Api_Element a0.Kids)])] [] ∧ e' = false) ?_ ?_
    · cases hc3 : (a0.Tag == a1.Tag)
      · skip
        refine WO.by rfl rfl rfl ?_
        refine WO.by rfl rfl rfl ?_
        refine WO.by rfl rfl rfl ?_
        refine WO.by rfl rfl rfl ?_
        refine WO.by rfl rfl rfl ?_
        refine WO.step (v := (.bool false)) rfl rfl ?_
        refine WO.nil ?_
        exact ⟨(known_cons rfl (known_cons rfl (known_cons rfl known_nil))), H, rfl⟩
      · skip
        refine WO.go0 rfl rfl ?_
        refine WO.step (v := (.ptr i1 1)) rfl rfl ?_
        refine WO.go0 rfl rfl ?_
        refine WO.step (v := (.str a0.Body)) rfl (stp_load rfl (H.get 1 rfl) rfl) ?_
        refine WO.go0 rfl rfl ?_
        refine WO.step (v := (.ptr i2 1)) rfl rfl ?_
        refine WO.go0 rfl rfl ?_
        refine WO.step (v := (.str a1.Body)) rfl (stp_load rfl (H.get 0 rfl) rfl) ?_
        refine WO.go0 rfl rfl ?_
        refine WO.step (v := (.bool (a0.Body == a1.Body))) rfl rfl ?_
        refine WO.step (v := (.bool (a0.Body == a1.Body))) rfl rfl ?_
        refine WO.nil ?_
        exact ⟨(known_cons rfl (known_cons rfl (known_cons rfl known_nil))), H, rfl⟩
    · rintro σ S e ⟨hk, H, rfl⟩
      refine WO.of_known hk ?_
      refine WO.step (v := (.bool ((a0.Tag == a1.Tag) && (a0.Body == a1.Body)))) rfl rfl ?_
      obtain ⟨y8, hy8, hOy8⟩ := bindS h
      refine WO.split 6 (fun σ' S' e' => Known ([(23, (.bool y8))]) σ' ∧ Hp [] [] S' [(i2, [(.int .u8 a1.Tag), (.str a1.Body), (encSl e_Api_Element a1.Kids)]), (i1, [(.int .u8 a0.Tag), (.str a0.Body), (encSl e_Api_Element a0.Kids)])] [] ∧ e' = false) ?_ ?_
      · replace h := hy8
        cases hc10 : ((a0.Tag == a1.Tag) && (a0.Body == a1.Body))
        · replace h := iteF h hc10
          refine WO.by rfl rfl rfl ?_
          refine WO.by rfl rfl rfl ?_
          refine WO.by rfl rfl rfl ?_
          refine WO.by rfl rfl rfl ?_
          refine WO.by rfl rfl rfl ?_
          refine WO.step (v := (.bool false)) rfl rfl ?_
          refine WO.nil ?_
          obtain rfl := Option.some.inj h
          exact ⟨(known_cons rfl known_nil), (H.sub (.cons_cons _ (.cons_cons _ .slnil)) .slnil), rfl⟩
        · replace h := iteT h hc10
          refine WO.go0 rfl rfl ?_
          refine WO.step (v := (.ptr i1 2)) rfl rfl ?_
          refine WO.go0 rfl rfl ?_
          refine WO.step (v := (encSl e_Api_Element a0.Kids)) rfl (stp_load rfl (H.get 1 rfl) rfl) ?_
          refine WO.go0 rfl rfl ?_
          refine WO.step (v := (.ptr i2 2)) rfl rfl ?_
          refine WO.go0 rfl rfl ?_
          refine WO.step (v := (encSl e_Api_Element a1.Kids)) rfl (stp_load rfl (H.get 0 rfl) rfl) ?_
          refine WO.go0 rfl rfl ?_
          obtain ⟨y9, hy9, h⟩ := bindS h
          refine WO.step (v := (.bool y9)) rfl (stp_call (vs := [(encSl e_Api_Element a0.Kids), (encSl e_Api_Element a1.Kids), (.fn (.func 20) [] [])]) rfl rfl (s29_20 ih _ hy9 (by simp only [strip_enc, st_fn, List.map_cons, List.map_nil, tupled]) _)) ?_
          refine WO.step (v := (.bool y9)) rfl rfl ?_
          refine WO.nil ?_
          obtain rfl := Option.some.inj h
          exact ⟨(known_cons rfl known_nil), (H.sub (.cons_cons _ (.cons_cons _ .slnil)) .slnil), rfl⟩
      · rintro σ S e ⟨hk, H, rfl⟩
        replace h := hOy8
        refine WO.of_known hk ?_
        refine WO.step (v := (.bool y8)) rfl rfl ?_
        refine WO.nil ?_
        refine WC.ret ?_
        obtain rfl := Option.some.inj h
        refine KB.ret (vs := [(.bool y8)]) (res_tmp rfl res_nil) ?_
        exact rfl
-- 10 prefect/prefectlaw1.known
/-- prefect/prefectlaw1.known -/
def F10 (k : Nat) : Option Bool :=
  Option.bind (F11 k [48, 3, 4, 1, 97, 122]) fun y1 =>
  Option.bind (F11 k [48, 3, 4, 5, 97]) fun y3 =>
  Option.bind (F17 k (Api_Element.mk 4 [97, 98] none)) fun y5 =>
  Option.bind (F17 k (Api_Element.mk 31 [] none)) fun y6 =>
  Option.bind (F13 k [4, 129, 128]) fun y7 =>
  Option.bind (if (((y1.2.2.2 == 0) && (y1.2.1 == 5)) && (y1.2.2.1 == 0)) && ((Sl.len y1.1.Kids) == 1) then
  Option.bind (Sl.at? y1.1.Kids 0) fun y16 =>
  some (y16.Body == [97])
  else
  some false) fun y15 =>
  Option.bind (if (((((((y15 && (y3.2.2.2 != 0)) && (decide (y3.2.2.1 ≥ 0))) && (y5.2 == 0)) && (y5.1 == [4, 2, 97, 98])) && (y6.2 == 14)) && (y7.1 == 3)) && (y7.2.1 == 128)) && (y7.2.2 == 0) then
  Option.bind (F19 k y1.1) fun y31 =>
  some y31
  else
  some false) fun y30 =>
  Option.bind (if y30 then
  Option.bind (F20 k y1.1 y1.1) fun y38 =>
  some y38
  else
  some false) fun y37 =>
  some y37
theorem s10 : ∀ k : Nat, ∀ {r : Bool}, F10 k  = some r → ∀ {vs : List PV}, vs.map PV.strip = [] → ∀ S : List SObj, evw env 10 vs S = some ((.bool r), S, false) := by
  intro k  r h vs ha S
  unfold F10 at h
  refine evw_pureW (pf := fn10) rfl rfl ha (Nat.le_of_ble_eq_true rfl) rfl rfl ?_
  refine WB.of (pf := fn10) rfl ?_
  have H := Hp.start []
  refine WC.seqR ?_
  refine WO.step (v := (.bool false)) rfl rfl ?_
  refine WO.nil ?_
  refine WC.seqR ?_
  obtain ⟨y1, hy1, h⟩ := bindS h
  refine WO.step (v := (.tup [(.agg [(.int .u8 y1.1.Tag), (.str y1.1.Body), (encSl e_Api_Element y1.1.Kids)]), (.int .i64 y1.2.1), (.int .i64 y1.2.2.1), (.int .i64 y1.2.2.2)])) rfl (stp_call (vs := [(.str [48, 3, 4, 1, 97, 122])]) rfl rfl (s11 _ hy1 rfl _)) ?_
  refine WO.step (v := (.tup [(.agg [(.int .u8 y1.1.Tag), (.str y1.1.Body), (encSl e_Api_Element y1.1.Kids)]), (.int .i64 y1.2.1), (.int .i64 y1.2.2.1), (.int .i64 y1.2.2.2)])) rfl rfl ?_
  refine WO.step (v := (.agg [(.int .u8 y1.1.Tag), (.str y1.1.Body), (encSl e_Api_Element y1.1.Kids)])) rfl rfl ?_
  refine WO.step (v := (.int .i64 y1.2.1)) rfl rfl ?_
  refine WO.step (v := (.int .i64 y1.2.2.1)) rfl rfl ?_
  refine WO.step (v := (.int .i64 y1.2.2.2)) rfl rfl ?_
  refine WO.alloc' (ti := ty25) rfl rfl rfl rfl H ?_
  intro i2 S hi2 H
  refine WO.store 0 rfl H rfl rfl rfl rfl rfl rfl rfl (Nat.le_of_ble_eq_true rfl) rfl (own_e hi2) ?_
  intro S H
  replace H : Hp [] [] _ [(i2, [(.int .u8 y1.1.Tag), (.str y1.1.Body), (encSl e_Api_Element y1.1.Kids)])] [] := H
  refine WO.step (v := (.int .i64 y1.2.1)) rfl rfl ?_
  refine WO.step (v := (.int .i64 y1.2.2.1)) rfl rfl ?_
  refine WO.step (v := (.int .i64 y1.2.2.2)) rfl rfl ?_
  refine WO.nil ?_
  refine WC.seqR ?_
  obtain ⟨y3, hy3, h⟩ := bindS h
  refine WO.step (v := (.tup [(.agg [(.int .u8 y3.1.Tag), (.str y3.1.Body), (encSl e_Api_Element y3.1.Kids)]), (.int .i64 y3.2.1), (.int .i64 y3.2.2.1), (.int .i64 y3.2.2.2)])) rfl (stp_call (vs := [(.str [48, 3, 4, 5, 97])]) rfl rfl (s11 _ hy3 rfl _)) ?_
  refine WO.step (v := (.tup [(.agg [(.int .u8 y3.1.Tag), (.str y3.1.Body), (encSl e_Api_Element y3.1.Kids)]), (.int .i64 y3.2.1), (.int .i64 y3.2.2.1), (.int .i64 y3.2.2.2)])) rfl rfl ?_
  refine WO.step (v := (.agg [(.int .u8 y3.1.Tag), (.str y3.1.Body), (encSl e_Api_Element y3.1.Kids)])) rfl rfl ?_
  refine WO.step (v := (.int .i64 y3.2.1)) rfl rfl ?_
  refine WO.step (v := (.int .i64 y3.2.2.1)) rfl rfl ?_
  refine WO.step (v := (.int .i64 y3.2.2.2)) rfl rfl ?_
  refine WO.alloc' (ti := ty25) rfl rfl rfl rfl H ?_
  intro i4 S hi4 H
  refine WO.store 0 rfl H rfl rfl rfl rfl rfl rfl rfl (Nat.le_of_ble_eq_true rfl) rfl (own_e hi4) ?_
  intro S H
  replace H : Hp [] [] _ [(i4, [(.int .u8 y3.1.Tag), (.str y3.1.Body), (encSl e_Api_Element y3.1.Kids)]), (i2, [(.int .u8 y1.1.Tag), (.str y1.1.Body), (encSl e_Api_Element y1.1.Kids)])] [] := H
  refine WO.step (v := (.int .i64 y3.2.1)) rfl rfl ?_
  refine WO.step (v := (.int .i64 y3.2.2.1)) rfl rfl ?_
  refine WO.step (v := (.int .i64 y3.2.2.2)) rfl rfl ?_
  refine WO.nil ?_
  refine WC.seqR ?_
  refine WO.step (v := (.agg [(.int .u8 4), (.str [97, 98]), .nils])) rfl (stp_build (ti := ty25) rfl rfl rfl rfl rfl (fill_cons rfl rfl rfl rfl (Nat.le_of_ble_eq_true rfl) rfl (fill_cons rfl rfl rfl rfl (Nat.le_of_ble_eq_true rfl) rfl rfl))) ?_
  obtain ⟨y5, hy5, h⟩ := bindS h
  refine WO.step (v := (.tup [(.str y5.1), (.int .i64 y5.2)])) rfl (stp_call (vs := [(.agg [(.int .u8 4), (.str [97, 98]), .nils])]) rfl rfl (s17 _ hy5 (by simp only [st_agg, List.map_cons, List.map_nil, st1_int, st1_str, st1_nils, encSl_none, e_Api_Element_eq, tupled]) _)) ?_
  refine WO.step (v := (.tup [(.str y5.1), (.int .i64 y5.2)])) rfl rfl ?_
  refine WO.step (v := (.str y5.1)) rfl rfl ?_
  refine WO.step (v := (.int .i64 y5.2)) rfl rfl ?_
  refine WO.step (v := (.str y5.1)) rfl rfl ?_
  refine WO.step (v := (.int .i64 y5.2)) rfl rfl ?_
  refine WO.nil ?_
  refine WC.seqR ?_
  refine WO.step (v := (.agg [(.int .u8 31), (.str []), .nils])) rfl (stp_build (ti := ty25) rfl rfl rfl rfl rfl (fill_cons rfl rfl rfl rfl (Nat.le_of_ble_eq_true rfl) rfl rfl)) ?_
  obtain ⟨y6, hy6, h⟩ := bindS h
  refine WO.step (v := (.tup [(.str y6.1), (.int .i64 y6.2)])) rfl (stp_call (vs := [(.agg [(.int .u8 31), (.str []), .nils])]) rfl rfl (s17 _ hy6 (by simp only [st_agg, List.map_cons, List.map_nil, st1_int, st1_str, st1_nils, encSl_none, e_Api_Element_eq, tupled]) _)) ?_
  refine WO.step (v := (.tup [(.str y6.1), (.int .i64 y6.2)])) rfl rfl ?_
  refine WO.step (v := (.str y6.1)) rfl rfl ?_
  refine WO.step (v := (.int .i64 y6.2)) rfl rfl ?_
  refine WO.step (v := (.str y6.1)) rfl rfl ?_
  refine WO.step (v := (.int .i64 y6.2)) rfl rfl ?_
  refine WO.nil ?_
  refine WC.seqR ?_
  obtain ⟨y7, hy7, h⟩ := bindS h
  refine WO.step (v := (.tup [(.int .i64 y7.1), (.int .i64 y7.2.1), (.int .i64 y7.2.2)])) rfl (stp_call (vs := [(.str [4, 129, 128])]) rfl rfl (s13 _ hy7 rfl _)) ?_
  refine WO.step (v := (.tup [(.int .i64 y7.1), (.int .i64 y7.2.1), (.int .i64 y7.2.2)])) rfl rfl ?_
  refine WO.step (v := (.int .i64 y7.1)) rfl rfl ?_
  refine WO.step (v := (.int .i64 y7.2.1)) rfl rfl ?_
  refine WO.step (v := (.int .i64 y7.2.2)) rfl rfl ?_
  refine WO.step (v := (.int .i64 y7.1)) rfl rfl ?_
  refine WO.step (v := (.int .i64 y7.2.1)) rfl rfl ?_
  refine WO.step (v := (.int .i64 y7.2.2)) rfl rfl ?_
  refine WO.nil ?_
  refine WC.seqR ?_
  refine WO.step (v := (.int .i64 y1.2.2.2)) rfl rfl ?_
  refine WO.step (v := (.bool (y1.2.2.2 == 0))) rfl rfl ?_
  refine WO.step (v := (.bool (y1.2.2.2 == 0))) rfl rfl ?_
  refine WO.split 3 (fun σ' S' e' => Known ([(1, (.ptr i2 0)), (3, (.int .i64 y1.2.2.1)), (7, (.int .i64 y3.2.2.1)), (8, (.int .i64 y3.2.2.2)), (9, (.str y5.1)), (10, (.int .i64 y5.2)), (12, (.int .i64 y6.2)), (13, (.int .i64 y7.1)), (14, (.int .i64 y7.2.1)), (15, (.int .i64 y7.2.2)), (48, (.bool ((y1.2.2.2 == 0) && (y1.2.1 == 5))))]) σ' ∧ Hp [] [] S' [(i4, [(.int .u8 y3.1.Tag), (.str y3.1.Body), (encSl e_Api_Element y3.1.Kids)]), (i2, [(.int .u8 y1.1.Tag), (.str y1.1.Body), (encSl e_Api_Element y1.1.Kids)])] [] ∧ e' = false) ?_ ?_
  · cases hc8 : (y1.2.2.2 == 0)
    · skip
      refine WO.by rfl rfl rfl ?_
      refine WO.by rfl rfl rfl ?_
      refine WO.step (v := (.bool false)) rfl rfl ?_
      refine WO.nil ?_
      exact ⟨(known_cons rfl (known_cons rfl (known_cons rfl (known_cons rfl (known_cons rfl (known_cons rfl (known_cons rfl (known_cons rfl (known_cons rfl (known_cons rfl (known_cons rfl known_nil))))))))))), H, rfl⟩
    · skip
      refine WO.go0 rfl rfl ?_
      refine WO.step (v := (.int .i64 y1.2.1)) rfl rfl ?_
      refine WO.go0 rfl rfl ?_
      refine WO.step (v := (.bool (y1.2.1 == 5))) rfl rfl ?_
      refine WO.step (v := (.bool (y1.2.1 == 5))) rfl rfl ?_
      refine WO.nil ?_
      exact ⟨(known_cons rfl (known_cons rfl (known_cons rfl (known_cons rfl (known_cons rfl (known_cons rfl (known_cons rfl (known_cons rfl (known_cons rfl (known_cons rfl (known_cons rfl known_nil))))))))))), H, rfl⟩
  · rintro σ S e ⟨hk, H, rfl⟩
    refine WO.of_known hk ?_
    refine WO.step (v := (.bool ((y1.2.2.2 == 0) && (y1.2.1 == 5)))) rfl rfl ?_
    refine WO.split 3 (fun σ' S' e' => Known ([(1, (.ptr i2 0)), (7, (.int .i64 y3.2.2.1)), (8, (.int .i64 y3.2.2.2)), (9, (.str y5.1)), (10, (.int .i64 y5.2)), (12, (.int .i64 y6.2)), (13, (.int .i64 y7.1)), (14, (.int .i64 y7.2.1)), (15, (.int .i64 y7.2.2)), (52, (.bool (((y1.2.2.2 == 0) && (y1.2.1 == 5)) && (y1.2.2.1 == 0))))]) σ' ∧ Hp [] [] S' [(i4, [(.int .u8 y3.1.Tag), (.str y3.1.Body), (encSl e_Api_Element y3.1.Kids)]), (i2, [(.int .u8 y1.1.Tag), (.str y1.1.Body), (encSl e_Api_Element y1.1.Kids)])] [] ∧ e' = false) ?_ ?_
    · cases hc9 : ((y1.2.2.2 == 0) && (y1.2.1 == 5))
      · skip
        refine WO.by rfl rfl rfl ?_
        refine WO.by rfl rfl rfl ?_
        refine WO.step (v := (.bool false)) rfl rfl ?_
        refine WO.nil ?_
        exact ⟨(known_cons rfl (known_cons rfl (known_cons rfl (known_cons rfl (known_cons rfl (known_cons rfl (known_cons rfl (known_cons rfl (known_cons rfl (known_cons rfl known_nil)))))))))), H, rfl⟩
      · skip
        refine WO.go0 rfl rfl ?_
        refine WO.step (v := (.int .i64 y1.2.2.1)) rfl rfl ?_
        refine WO.go0 rfl rfl ?_
        refine WO.step (v := (.bool (y1.2.2.1 == 0))) rfl rfl ?_
        refine WO.step (v := (.bool (y1.2.2.1 == 0))) rfl rfl ?_
        refine WO.nil ?_
        exact ⟨(known_cons rfl (known_cons rfl (known_cons rfl (known_cons rfl (known_cons rfl (known_cons rfl (known_cons rfl (known_cons rfl (known_cons rfl (known_cons rfl known_nil)))))))))), H, rfl⟩
    · rintro σ S e ⟨hk, H, rfl⟩
      refine WO.of_known hk ?_
      refine WO.step (v := (.bool (((y1.2.2.2 == 0) && (y1.2.1 == 5)) && (y1.2.2.1 == 0)))) rfl rfl ?_
      refine WO.split 5 (fun σ' S' e' => Known ([(1, (.ptr i2 0)), (7, (.int .i64 y3.2.2.1)), (8, (.int .i64 y3.2.2.2)), (9, (.str y5.1)), (10, (.int .i64 y5.2)), (12, (.int .i64 y6.2)), (13, (.int .i64 y7.1)), (14, (.int .i64 y7.2.1)), (15, (.int .i64 y7.2.2)), (58, (.bool ((((y1.2.2.2 == 0) && (y1.2.1 == 5)) && (y1.2.2.1 == 0)) && ((Sl.len y1.1.Kids) == 1))))]) σ' ∧ Hp [] [] S' [(i4, [(.int .u8 y3.1.Tag), (.str y3.1.Body), (encSl e_Api_Element y3.1.Kids)]), (i2, [(.int .u8 y1.1.Tag), (.str y1.1.Body), (encSl e_Api_Element y1.1.Kids)])] [] ∧ e' = false) ?_ ?_
      · cases hc10 : (((y1.2.2.2 == 0) && (y1.2.1 == 5)) && (y1.2.2.1 == 0))
        · skip
          refine WO.by rfl rfl rfl ?_
          refine WO.by rfl rfl rfl ?_
          refine WO.by rfl rfl rfl ?_
          refine WO.by rfl rfl rfl ?_
          refine WO.step (v := (.bool false)) rfl rfl ?_
          refine WO.nil ?_
          exact ⟨(known_cons rfl (known_cons rfl (known_cons rfl (known_cons rfl (known_cons rfl (known_cons rfl (known_cons rfl (known_cons rfl (known_cons rfl (known_cons rfl known_nil)))))))))), H, rfl⟩
        · skip
          refine WO.go0 rfl rfl ?_
          refine WO.step (v := (.ptr i2 2)) rfl rfl ?_
          refine WO.go0 rfl rfl ?_
          refine WO.step (v := (encSl e_Api_Element y1.1.Kids)) rfl (stp_load rfl (H.get 1 rfl) rfl) ?_
          refine WO.go0 rfl rfl ?_
          refine WO.step (v := (.int .i64 (Sl.len y1.1.Kids))) rfl (stp_len rfl (isSl_enc _ _) rfl) ?_
          refine WO.go0 rfl rfl ?_
          refine WO.step (v := (.bool ((Sl.len y1.1.Kids) == 1))) rfl rfl ?_
          refine WO.step (v := (.bool ((Sl.len y1.1.Kids) == 1))) rfl rfl ?_
          refine WO.nil ?_
          exact ⟨(known_cons rfl (known_cons rfl (known_cons rfl (known_cons rfl (known_cons rfl (known_cons rfl (known_cons rfl (known_cons rfl (known_cons rfl (known_cons rfl known_nil)))))))))), H, rfl⟩
      · rintro σ S e ⟨hk, H, rfl⟩
        refine WO.of_known hk ?_
        refine WO.step (v := (.bool ((((y1.2.2.2 == 0) && (y1.2.1 == 5)) && (y1.2.2.1 == 0)) && ((Sl.len y1.1.Kids) == 1)))) rfl rfl ?_
        obtain ⟨y15, hy15, hOy15⟩ := bindS h
        refine WO.split 7 (fun σ' S' e' => Known ([(1, (.ptr i2 0)), (7, (.int .i64 y3.2.2.1)), (8, (.int .i64 y3.2.2.2)), (9, (.str y5.1)), (10, (.int .i64 y5.2)), (12, (.int .i64 y6.2)), (13, (.int .i64 y7.1)), (14, (.int .i64 y7.2.1)), (15, (.int .i64 y7.2.2)), (66, (.bool y15))]) σ' ∧ Hp [] [] S' [(i4, [(.int .u8 y3.1.Tag), (.str y3.1.Body), (encSl e_Api_Element y3.1.Kids)]), (i2, [(.int .u8 y1.1.Tag), (.str y1.1.Body), (encSl e_Api_Element y1.1.Kids)])] [] ∧ e' = false) ?_ ?_
        · replace h := hy15
          cases hc17 : ((((y1.2.2.2 == 0) && (y1.2.1 == 5)) && (y1.2.2.1 == 0)) && ((Sl.len y1.1.Kids) == 1))
          · replace h := iteF h hc17
            refine WO.by rfl rfl rfl ?_
            refine WO.by rfl rfl rfl ?_
            refine WO.by rfl rfl rfl ?_
            refine WO.by rfl rfl rfl ?_
            refine WO.by rfl rfl rfl ?_
            refine WO.by rfl rfl rfl ?_
            refine WO.step (v := (.bool false)) rfl rfl ?_
            refine WO.nil ?_
            obtain rfl := Option.some.inj h
            exact ⟨(known_cons rfl (known_cons rfl (known_cons rfl (known_cons rfl (known_cons rfl (known_cons rfl (known_cons rfl (known_cons rfl (known_cons rfl (known_cons rfl known_nil)))))))))), (H.sub (.cons_cons _ (.cons_cons _ .slnil)) .slnil), rfl⟩
          · replace h := iteT h hc17
            refine WO.go0 rfl rfl ?_
            refine WO.step (v := (.ptr i2 2)) rfl rfl ?_
            refine WO.go0 rfl rfl ?_
            refine WO.step (v := (encSl e_Api_Element y1.1.Kids)) rfl (stp_load rfl (H.get 1 rfl) rfl) ?_
            refine WO.go0 rfl rfl ?_
            obtain ⟨y16, hy16, h⟩ := bindS h
            refine WO.step (v := (.iptr [(.int .u8 y16.Tag), (.str y16.Body), (encSl e_Api_Element y16.Kids)] 0)) rfl (stp_idxAddr rfl (isSl_enc _ _) rfl rfl rfl hy16 (e_Api_Element_cells _) rfl) ?_
            refine WO.go0 rfl rfl ?_
            refine WO.step (v := (.iptr [(.int .u8 y16.Tag), (.str y16.Body), (encSl e_Api_Element y16.Kids)] 1)) rfl rfl ?_
            refine WO.go0 rfl rfl ?_
            refine WO.step (v := (.str y16.Body)) rfl rfl ?_
            refine WO.go0 rfl rfl ?_
            refine WO.step (v := (.bool (y16.Body == [97]))) rfl rfl ?_
            refine WO.step (v := (.bool (y16.Body == [97]))) rfl rfl ?_
            refine WO.nil ?_
            obtain rfl := Option.some.inj h
            exact ⟨(known_cons rfl (known_cons rfl (known_cons rfl (known_cons rfl (known_cons rfl (known_cons rfl (known_cons rfl (known_cons rfl (known_cons rfl (known_cons rfl known_nil)))))))))), (H.sub (.cons_cons _ (.cons_cons _ .slnil)) .slnil), rfl⟩
        · rintro σ S e ⟨hk, H, rfl⟩
          replace h := hOy15
          refine WO.of_known hk ?_
          refine WO.step (v := (.bool y15)) rfl rfl ?_
          refine WO.split 3 (fun σ' S' e' => Known ([(1, (.ptr i2 0)), (7, (.int .i64 y3.2.2.1)), (9, (.str y5.1)), (10, (.int .i64 y5.2)), (12, (.int .i64 y6.2)), (13, (.int .i64 y7.1)), (14, (.int .i64 y7.2.1)), (15, (.int .i64 y7.2.2)), (70, (.bool (y15 && (y3.2.2.2 != 0))))]) σ' ∧ Hp [] [] S' [(i4, [(.int .u8 y3.1.Tag), (.str y3.1.Body), (encSl e_Api_Element y3.1.Kids)]), (i2, [(.int .u8 y1.1.Tag), (.str y1.1.Body), (encSl e_Api_Element y1.1.Kids)])] [] ∧ e' = false) ?_ ?_
          · cases hc18 : y15
            · skip
              refine WO.by rfl rfl rfl ?_
              refine WO.by rfl rfl rfl ?_
              refine WO.step (v := (.bool false)) rfl rfl ?_
              refine WO.nil ?_
              exact ⟨(known_cons rfl (known_cons rfl (known_cons rfl (known_cons rfl (known_cons rfl (known_cons rfl (known_cons rfl (known_cons rfl (known_cons rfl known_nil))))))))), H, rfl⟩
            · skip
              refine WO.go0 rfl rfl ?_
              refine WO.step (v := (.int .i64 y3.2.2.2)) rfl rfl ?_
              refine WO.go0 rfl rfl ?_
              refine WO.step (v := (.bool (y3.2.2.2 != 0))) rfl rfl ?_
              refine WO.step (v := (.bool (y3.2.2.2 != 0))) rfl rfl ?_
              refine WO.nil ?_
              exact ⟨(known_cons rfl (known_cons rfl (known_cons rfl (known_cons rfl (known_cons rfl (known_cons rfl (known_cons rfl (known_cons rfl (known_cons rfl known_nil))))))))), H, rfl⟩
          · rintro σ S e ⟨hk, H, rfl⟩
            refine WO.of_known hk ?_
            refine WO.step (v := (.bool (y15 && (y3.2.2.2 != 0)))) rfl rfl ?_
            refine WO.split 3 (fun σ' S' e' => Known ([(1, (.ptr i2 0)), (9, (.str y5.1)), (10, (.int .i64 y5.2)), (12, (.int .i64 y6.2)), (13, (.int .i64 y7.1)), (14, (.int .i64 y7.2.1)), (15, (.int .i64 y7.2.2)), (74, (.bool ((y15 && (y3.2.2.2 != 0)) && (decide (y3.2.2.1 ≥ 0)))))]) σ' ∧ Hp [] [] S' [(i4, [(.int .u8 y3.1.Tag), (.str y3.1.Body), (encSl e_Api_Element y3.1.Kids)]), (i2, [(.int .u8 y1.1.Tag), (.str y1.1.Body), (encSl e_Api_Element y1.1.Kids)])] [] ∧ e' = false) ?_ ?_
            · cases hc19 : (y15 && (y3.2.2.2 != 0))
              · skip
                refine WO.by rfl rfl rfl ?_
                refine WO.by rfl rfl rfl ?_
                refine WO.step (v := (.bool false)) rfl rfl ?_
                refine WO.nil ?_
                exact ⟨(known_cons rfl (known_cons rfl (known_cons rfl (known_cons rfl (known_cons rfl (known_cons rfl (known_cons rfl (known_cons rfl known_nil)))))))), H, rfl⟩
              · skip
                refine WO.go0 rfl rfl ?_
                refine WO.step (v := (.int .i64 y3.2.2.1)) rfl rfl ?_
                refine WO.go0 rfl rfl ?_
                refine WO.step (v := (.bool (decide (y3.2.2.1 ≥ 0)))) rfl rfl ?_
                refine WO.step (v := (.bool (decide (y3.2.2.1 ≥ 0)))) rfl rfl ?_
                refine WO.nil ?_
                exact ⟨(known_cons rfl (known_cons rfl (known_cons rfl (known_cons rfl (known_cons rfl (known_cons rfl (known_cons rfl (known_cons rfl known_nil)))))))), H, rfl⟩
            · rintro σ S e ⟨hk, H, rfl⟩
              refine WO.of_known hk ?_
              refine WO.step (v := (.bool ((y15 && (y3.2.2.2 != 0)) && (decide (y3.2.2.1 ≥ 0))))) rfl rfl ?_
              refine WO.split 3 (fun σ' S' e' => Known ([(1, (.ptr i2 0)), (9, (.str y5.1)), (12, (.int .i64 y6.2)), (13, (.int .i64 y7.1)), (14, (.int .i64 y7.2.1)), (15, (.int .i64 y7.2.2)), (78, (.bool (((y15 && (y3.2.2.2 != 0)) && (decide (y3.2.2.1 ≥ 0))) && (y5.2 == 0))))]) σ' ∧ Hp [] [] S' [(i4, [(.int .u8 y3.1.Tag), (.str y3.1.Body), (encSl e_Api_Element y3.1.Kids)]), (i2, [(.int .u8 y1.1.Tag), (.str y1.1.Body), (encSl e_Api_Element y1.1.Kids)])] [] ∧ e' = false) ?_ ?_
              · cases hc20 : ((y15 && (y3.2.2.2 != 0)) && (decide (y3.2.2.1 ≥ 0)))
                · skip
                  refine WO.by rfl rfl rfl ?_
                  refine WO.by rfl rfl rfl ?_
                  refine WO.step (v := (.bool false)) rfl rfl ?_
                  refine WO.nil ?_
                  exact ⟨(known_cons rfl (known_cons rfl (known_cons rfl (known_cons rfl (known_cons rfl (known_cons rfl (known_cons rfl known_nil))))))), H, rfl⟩
                · skip
                  refine WO.go0 rfl rfl ?_
                  refine WO.step (v := (.int .i64 y5.2)) rfl rfl ?_
                  refine WO.go0 rfl rfl ?_
                  refine WO.step (v := (.bool (y5.2 == 0))) rfl rfl ?_
                  refine WO.step (v := (.bool (y5.2 == 0))) rfl rfl ?_
                  refine WO.nil ?_
                  exact ⟨(known_cons rfl (known_cons rfl (known_cons rfl (known_cons rfl (known_cons rfl (known_cons rfl (known_cons rfl known_nil))))))), H, rfl⟩
              · rintro σ S e ⟨hk, H, rfl⟩
                refine WO.of_known hk ?_
                refine WO.step (v := (.bool (((y15 && (y3.2.2.2 != 0)) && (decide (y3.2.2.1 ≥ 0))) && (y5.2 == 0)))) rfl rfl ?_
                refine WO.split 3 (fun σ' S' e' => Known ([(1, (.ptr i2 0)), (12, (.int .i64 y6.2)), (13, (.int .i64 y7.1)), (14, (.int .i64 y7.2.1)), (15, (.int .i64 y7.2.2)), (82, (.bool ((((y15 && (y3.2.2.2 != 0)) && (decide (y3.2.2.1 ≥ 0))) && (y5.2 == 0)) && (y5.1 == [4, 2, 97, 98]))))]) σ' ∧ Hp [] [] S' [(i4, [(.int .u8 y3.1.Tag), (.str y3.1.Body), (encSl e_Api_Element y3.1.Kids)]), (i2, [(.int .u8 y1.1.Tag), (.str y1.1.Body), (encSl e_Api_Element y1.1.Kids)])] [] ∧ e' = false) ?_ ?_
                · cases hc21 : (((y15 && (y3.2.2.2 != 0)) && (decide (y3.2.2.1 ≥ 0))) && (y5.2 == 0))
                  · skip
                    refine WO.by rfl rfl rfl ?_
                    refine WO.by rfl rfl rfl ?_
                    refine WO.step (v := (.bool false)) rfl rfl ?_
                    refine WO.nil ?_
                    exact ⟨(known_cons rfl (known_cons rfl (known_cons rfl (known_cons rfl (known_cons rfl (known_cons rfl known_nil)))))), H, rfl⟩
                  · skip
                    refine WO.go0 rfl rfl ?_
                    refine WO.step (v := (.str y5.1)) rfl rfl ?_
                    refine WO.go0 rfl rfl ?_
                    refine WO.step (v := (.bool (y5.1 == [4, 2, 97, 98]))) rfl rfl ?_
                    refine WO.step (v := (.bool (y5.1 == [4, 2, 97, 98]))) rfl rfl ?_
                    refine WO.nil ?_
                    exact ⟨(known_cons rfl (known_cons rfl (known_cons rfl (known_cons rfl (known_cons rfl (known_cons rfl known_nil)))))), H, rfl⟩
                · rintro σ S e ⟨hk, H, rfl⟩
                  refine WO.of_known hk ?_
                  refine WO.step (v := (.bool ((((y15 && (y3.2.2.2 != 0)) && (decide (y3.2.2.1 ≥ 0))) && (y5.2 == 0)) && (y5.1 == [4, 2, 97, 98])))) rfl rfl ?_
                  refine WO.split 3 (fun σ' S' e' => Known ([(1, (.ptr i2 0)), (13, (.int .i64 y7.1)), (14, (.int .i64 y7.2.1)), (15, (.int .i64 y7.2.2)), (86, (.bool (((((y15 && (y3.2.2.2 != 0)) && (decide (y3.2.2.1 ≥ 0))) && (y5.2 == 0)) && (y5.1 == [4, 2, 97, 98])) && (y6.2 == 14))))]) σ' ∧ Hp [] [] S' [(i4, [(.int .u8 y3.1.Tag), (.str y3.1.Body), (encSl e_Api_Element y3.1.Kids)]), (i2, [(.int .u8 y1.1.Tag), (.str y1.1.Body), (encSl e_Api_Element y1.1.Kids)])] [] ∧ e' = false) ?_ ?_
                  · cases hc22 : ((((y15 && (y3.2.2.2 != 0)) && (decide (y3.2.2.1 ≥ 0))) && (y5.2 == 0)) && (y5.1 == [4, 2, 97, 98]))
                    · skip
                      refine WO.by rfl rfl rfl ?_
                      refine WO.by rfl rfl rfl ?_
                      refine WO.step (v := (.bool false)) rfl rfl ?_
                      refine WO.nil ?_
                      exact ⟨(known_cons rfl (known_cons rfl (known_cons rfl (known_cons rfl (known_cons rfl known_nil))))), H, rfl⟩
                    · skip
                      refine WO.go0 rfl rfl ?_
                      refine WO.step (v := (.int .i64 y6.2)) rfl rfl ?_
                      refine WO.go0 rfl rfl ?_
                      refine WO.step (v := (.bool (y6.2 == 14))) rfl rfl ?_
                      refine WO.step (v := (.bool (y6.2 == 14))) rfl rfl ?_
                      refine WO.nil ?_
                      exact ⟨(known_cons rfl (known_cons rfl (known_cons rfl (known_cons rfl (known_cons rfl known_nil))))), H, rfl⟩
                  · rintro σ S e ⟨hk, H, rfl⟩
                    refine WO.of_known hk ?_
                    refine WO.step (v := (.bool (((((y15 && (y3.2.2.2 != 0)) && (decide (y3.2.2.1 ≥ 0))) && (y5.2 == 0)) && (y5.1 == [4, 2, 97, 98])) && (y6.2 == 14)))) rfl rfl ?_
                    refine WO.split 3 (fun σ' S' e' => Known ([(1, (.ptr i2 0)), (14, (.int .i64 y7.2.1)), (15, (.int .i64 y7.2.2)), (90, (.bool ((((((y15 && (y3.2.2.2 != 0)) && (decide (y3.2.2.1 ≥ 0))) && (y5.2 == 0)) && (y5.1 == [4, 2, 97, 98])) && (y6.2 == 14)) && (y7.1 == 3))))]) σ' ∧ Hp [] [] S' [(i4, [(.int .u8 y3.1.Tag), (.str y3.1.Body), (encSl e_Api_Element y3.1.Kids)]), (i2, [(.int .u8 y1.1.Tag), (.str y1.1.Body), (encSl e_Api_Element y1.1.Kids)])] [] ∧ e' = false) ?_ ?_
                    · cases hc23 : (((((y15 && (y3.2.2.2 != 0)) && (decide (y3.2.2.1 ≥ 0))) && (y5.2 == 0)) && (y5.1 == [4, 2, 97, 98])) && (y6.2 == 14))
                      · skip
                        refine WO.by rfl rfl rfl ?_
                        refine WO.by rfl rfl rfl ?_
                        refine WO.step (v := (.bool false)) rfl rfl ?_
                        refine WO.nil ?_
                        exact ⟨(known_cons rfl (known_cons rfl (known_cons rfl (known_cons rfl known_nil)))), H, rfl⟩
                      · skip
                        refine WO.go0 rfl rfl ?_
                        refine WO.step (v := (.int .i64 y7.1)) rfl rfl ?_
                        refine WO.go0 rfl rfl ?_
                        refine WO.step (v := (.bool (y7.1 == 3))) rfl rfl ?_
                        refine WO.step (v := (.bool (y7.1 == 3))) rfl rfl ?_
                        refine WO.nil ?_
                        exact ⟨(known_cons rfl (known_cons rfl (known_cons rfl (known_cons rfl known_nil)))), H, rfl⟩
                    · rintro σ S e ⟨hk, H, rfl⟩
                      refine WO.of_known hk ?_
                      refine WO.step (v := (.bool ((((((y15 && (y3.2.2.2 != 0)) && (decide (y3.2.2.1 ≥ 0))) && (y5.2 == 0)) && (y5.1 == [4, 2, 97, 98])) && (y6.2 == 14)) && (y7.1 == 3)))) rfl rfl ?_
                      refine WO.split 3 (fun σ' S' e' => Known ([(1, (.ptr i2 0)), (15, (.int .i64 y7.2.2)), (94, (.bool (((((((y15 && (y3.2.2.2 != 0)) && (decide (y3.2.2.1 ≥ 0))) && (y5.2 == 0)) && (y5.1 == [4, 2, 97, 98])) && (y6.2 == 14)) && (y7.1 == 3)) && (y7.2.1 == 128))))]) σ' ∧ Hp [] [] S' [(i4, [(.int .u8 y3.1.Tag), (.str y3.1.Body), (encSl e_Api_Element y3.1.Kids)]), (i2, [(.int .u8 y1.1.Tag), (.str y1.1.Body), (encSl e_Api_Element y1.1.Kids)])] [] ∧ e' = false) ?_ ?_
                      · cases hc24 : ((((((y15 && (y3.2.2.2 != 0)) && (decide (y3.2.2.1 ≥ 0))) && (y5.2 == 0)) && (y5.1 == [4, 2, 97, 98])) && (y6.2 == 14)) && (y7.1 == 3))
                        · skip
                          refine WO.by rfl rfl rfl ?_
                          refine WO.by rfl rfl rfl ?_
                          refine WO.step (v := (.bool false)) rfl rfl ?_
                          refine WO.nil ?_
                          exact ⟨(known_cons rfl (known_cons rfl (known_cons rfl known_nil))), H, rfl⟩
                        · skip
                          refine WO.go0 rfl rfl ?_
                          refine WO.step (v := (.int .i64 y7.2.1)) rfl rfl ?_
                          refine WO.go0 rfl rfl ?_
                          refine WO.step (v := (.bool (y7.2.1 == 128))) rfl rfl ?_
                          refine WO.step (v := (.bool (y7.2.1 == 128))) rfl rfl ?_
                          refine WO.nil ?_
                          exact ⟨(known_cons rfl (known_cons rfl (known_cons rfl known_nil))), H, rfl⟩
                      · rintro σ S e ⟨hk, H, rfl⟩
                        refine WO.of_known hk ?_
                        refine WO.step (v := (.bool (((((((y15 && (y3.2.2.2 != 0)) && (decide (y3.2.2.1 ≥ 0))) && (y5.2 == 0)) && (y5.1 == [4, 2, 97, 98])) && (y6.2 == 14)) && (y7.1 == 3)) && (y7.2.1 == 128)))) rfl rfl ?_
                        refine WO.split 3 (fun σ' S' e' => Known ([(1, (.ptr i2 0)), (98, (.bool ((((((((y15 && (y3.2.2.2 != 0)) && (decide (y3.2.2.1 ≥ 0))) && (y5.2 == 0)) && (y5.1 == [4, 2, 97, 98])) && (y6.2 == 14)) && (y7.1 == 3)) && (y7.2.1 == 128)) && (y7.2.2 == 0))))]) σ' ∧ Hp [] [] S' [(i4, [(.int .u8 y3.1.Tag), (.str y3.1.Body), (encSl e_Api_Element y3.1.Kids)]), (i2, [(.int .u8 y1.1.Tag), (.str y1.1.Body), (encSl e_Api_Element y1.1.Kids)])] [] ∧ e' = false) ?_ ?_
                        · cases hc25 : (((((((y15 && (y3.2.2.2 != 0)) && (decide (y3.2.2.1 ≥ 0))) && (y5.2 == 0)) && (y5.1 == [4, 2, 97, 98])) && (y6.2 == 14)) && (y7.1 == 3)) && (y7.2.1 == 128))
                          · skip
                            refine WO.by rfl rfl rfl ?_
                            refine WO.by rfl rfl rfl ?_
                            refine WO.step (v := (.bool false)) rfl rfl ?_
                            refine WO.nil ?_
                            exact ⟨(known_cons rfl (known_cons rfl known_nil)), H, rfl⟩
                          · skip
                            refine WO.go0 rfl rfl ?_
                            refine WO.step (v := (.int .i64 y7.2.2)) rfl rfl ?_
                            refine WO.go0 rfl rfl ?_
                            refine WO.step (v := (.bool (y7.2.2 == 0))) rfl rfl ?_
                            refine WO.step (v := (.bool (y7.2.2 == 0))) rfl rfl ?_
                            refine WO.nil ?_
                            exact ⟨(known_cons rfl (known_cons rfl known_nil)), H, rfl⟩
                        · rintro σ S e ⟨hk, H, rfl⟩
                          refine WO.of_known hk ?_
                          refine WO.step (v := (.bool ((((((((y15 && (y3.2.2.2 != 0)) && (decide (y3.2.2.1 ≥ 0))) && (y5.2 == 0)) && (y5.1 == [4, 2, 97, 98])) && (y6.2 == 14)) && (y7.1 == 3)) && (y7.2.1 == 128)) && (y7.2.2 == 0)))) rfl rfl ?_
                          obtain ⟨y30, hy30, hOy30⟩ := bindS h
                          refine WO.split 3 (fun σ' S' e' => Known ([(1, (.ptr i2 0)), (102, (.bool y30))]) σ' ∧ Hp [] [] S' [(i4, [(.int .u8 y3.1.Tag), (.str y3.1.Body), (encSl e_Api_Element y3.1.Kids)]), (i2, [(.int .u8 y1.1.Tag), (.str y1.1.Body), (encSl e_Api_Element y1.1.Kids)])] [] ∧ e' = false) ?_ ?_
                          · replace h := hy30
                            cases hc32 : ((((((((y15 && (y3.2.2.2 != 0)) && (decide (y3.2.2.1 ≥ 0))) && (y5.2 == 0)) && (y5.1 == [4, 2, 97, 98])) && (y6.2 == 14)) && (y7.1 == 3)) && (y7.2.1 == 128)) && (y7.2.2 == 0))
                            · replace h := iteF h hc32
                              refine WO.by rfl rfl rfl ?_
                              refine WO.by rfl rfl rfl ?_
                              refine WO.step (v := (.bool false)) rfl rfl ?_
                              refine WO.nil ?_
                              obtain rfl := Option.some.inj h
                              exact ⟨(known_cons rfl (known_cons rfl known_nil)), (H.sub (.cons_cons _ (.cons_cons _ .slnil)) .slnil), rfl⟩
                            · replace h := iteT h hc32
                              refine WO.go0 rfl rfl ?_
                              refine WO.step (v := (.agg [(.int .u8 y1.1.Tag), (.str y1.1.Body), (encSl e_Api_Element y1.1.Kids)])) rfl (stp_load rfl (H.get 1 rfl) rfl) ?_
                              refine WO.go0 rfl rfl ?_
                              obtain ⟨y31, hy31, h⟩ := bindS h
                              refine WO.step (v := (.bool y31)) rfl (stp_call (vs := [(.agg [(.int .u8 y1.1.Tag), (.str y1.1.Body), (encSl e_Api_Element y1.1.Kids)])]) rfl rfl (s19 _ hy31 (by simp only [st_agg, List.map_cons, List.map_nil, st1_int, st1_str, strip1_enc, e_Api_Element_eq, tupled]) _)) ?_
                              refine WO.step (v := (.bool y31)) rfl rfl ?_
                              refine WO.nil ?_
                              obtain rfl := Option.some.inj h
                              exact ⟨(known_cons rfl (known_cons rfl known_nil)), (H.sub (.cons_cons _ (.cons_cons _ .slnil)) .slnil), rfl⟩
                          · rintro σ S e ⟨hk, H, rfl⟩
                            replace h := hOy30
                            refine WO.of_known hk ?_
                            refine WO.step (v := (.bool y30)) rfl rfl ?_
                            obtain ⟨y37, hy37, hOy37⟩ := bindS h
                            refine WO.split 4 (fun σ' S' e' => Known ([(107, (.bool y37))]) σ' ∧ Hp [] [] S' [(i4, [(.int .u8 y3.1.Tag), (.str y3.1.Body), (encSl e_Api_Element y3.1.Kids)]), (i2, [(.int .u8 y1.1.Tag), (.str y1.1.Body), (encSl e_Api_Element y1.1.Kids)])] [] ∧ e' = false) ?_ ?_
                            · replace h := hy37
                              cases hc39 : y30
                              · replace h := iteF h hc39
                                refine WO.by rfl rfl rfl ?_
                                refine WO.by rfl rfl rfl ?_
                                refine WO.by rfl rfl rfl ?_
                                refine WO.step (v := (.bool false)) rfl rfl ?_
                                refine WO.nil ?_
                                obtain rfl := Option.some.inj h
                                exact ⟨(known_cons rfl known_nil), (H.sub (.cons_cons _ (.cons_cons _ .slnil)) .slnil), rfl⟩
                              · replace h := iteT h hc39
                                refine WO.go0 rfl rfl ?_
                                refine WO.step (v := (.agg [(.int .u8 y1.1.Tag), (.str y1.1.Body), (encSl e_Api_Element y1.1.Kids)])) rfl (stp_load rfl (H.get 1 rfl) rfl) ?_
                                refine WO.go0 rfl rfl ?_
                                refine WO.step (v := (.agg [(.int .u8 y1.1.Tag), (.str y1.1.Body), (encSl e_Api_Element y1.1.Kids)])) rfl (stp_load rfl (H.get 1 rfl) rfl) ?_
                                refine WO.go0 rfl rfl ?_
                                obtain ⟨y38, hy38, h⟩ := bindS h
                                refine WO.step (v := (.bool y38)) rfl (stp_call (vs := [(.agg [(.int .u8 y1.1.Tag), (.str y1.1.Body), (encSl e_Api_Element y1.1.Kids)]), (.agg [(.int .u8 y1.1.Tag), (.str y1.1.Body), (encSl e_Api_Element y1.1.Kids)])]) rfl rfl (s20 _ hy38 (by simp only [st_agg, List.map_cons, List.map_nil, st1_int, st1_str, strip1_enc, e_Api_Element_eq, tupled]) _)) ?_
                                refine WO.step (v := (.bool y38)) rfl rfl ?_
                                refine WO.nil ?_
                                obtain rfl := Option.some.inj h
                                exact ⟨(known_cons rfl known_nil), (H.sub (.cons_cons _ (.cons_cons _ .slnil)) .slnil), rfl⟩
                            · rintro σ S e ⟨hk, H, rfl⟩
                              replace h := hOy37
                              refine WO.of_known hk ?_
                              refine WO.step (v := (.bool y37)) rfl rfl ?_
                              refine WO.nil ?_
                              refine WC.ret ?_
                              obtain rfl := Option.some.inj h
                              refine KB.ret (vs := [(.bool y37)]) (res_tmp rfl res_nil) ?_
                              exact rfl
-- 14 prefect/prefectref1.Head
def F14_L0 (k : Nat) (a27 : Str) (a28 : Int) : Nat → Int → Int → Option (Int × Int)
  | 0, _, _ => none
  | n + 1, x29, x30 =>
    if decide (x30 < a28) then
    Option.bind (Str.at? a27 (ad .i64 2 x30)) fun c33 =>
    F14_L0 k a27 a28 n (ad .i64 (ml .i64 256 x29) (cv .i64 c33)) (ad .i64 x30 1)
    else
    some (x29, x30)
/-- prefect/prefectref1.Head -/
def F14 (k : Nat) (a0 : Str) : Option (Int × Int × Int) :=
  if (Str.len a0) == 0 then
  some (0, 0, 10)
  else
  Option.bind (Str.at? a0 0) fun c2 =>
  if (bAnd .u8 c2 31) == 31 then
  some (0, 0, 14)
  else
  if (Str.len a0) == 1 then
  some (0, 0, 10)
  else
  Option.bind (Str.at? a0 1) fun c5 =>
  if decide (c5 < 128) then
  Option.bind (Str.at? a0 1) fun c8 =>
  some (2, cv .i64 c8, 0)
  else
  Option.bind (Str.at? a0 1) fun c9 =>
  if (decide ((sb .i64 (cv .i64 c9) 128) < 1)) || (decide ((sb .i64 (cv .i64 c9) 128) > 4)) then
  some (0, 0, 11)
  else
  if decide ((Str.len a0) < (ad .i64 2 (sb .i64 (cv .i64 c9) 128))) then
  some (0, 0, 10)
  else
  Option.bind (F14_L0 k a0 (sb .i64 (cv .i64 c9) 128) k 0 0) fun y35 =>
  if decide (y35.1 > 4000) then
  some (0, 0, 13)
  else
  some (ad .i64 2 (sb .i64 (cv .i64 c9) 128), y35.1, 0)
theorem l14_L0 {k : Nat} {a27 : Str} {a28 : Int} {S0 : List SObj} {R : List Nat} {K : KX}  {o : (Int × Int)}
    (hbrk : ∀ {σ' : Nat → PV} {S' : List SObj}, Known [(5, (.int .i64 a28)), (6, (.int .i64 o.1)), (7, (.int .i64 o.2))] σ' → Hp S0 R S' [] [] → K (.exit 0) σ' S' false) :
    ∀ {n : Nat} {x29 : Int} {x30 : Int}, F14_L0 k a27 a28 n x29 x30 = some o → ∀ {σ : Nat → PV} {S : List SObj}, Known [(0, (.str a27)), (5, (.int .i64 a28)), (6, (.int .i64 x29)), (7, (.int .i64 x30))] σ → Hp S0 R S [] [] → WC env ⟨57, S0.length⟩ (.loop pc14L0) σ S false K := by
  intro n
  induction n with
  | zero => intro _ _ h; cases h
  | succ n ih =>
    intro x29 x30 h σ S  hk H
    rw [F14_L0] at h
    refine WC.loop ?_
    refine WC.of_known hk ?_
    refine WC.seq ?_
    refine WC.seqR ?_
    refine WO.step (v := (.int .i64 x30)) rfl rfl ?_
    refine WO.step (v := (.int .i64 a28)) rfl rfl ?_
    refine WO.step (v := (.bool (decide (x30 < a28)))) rfl rfl ?_
    refine WO.nil ?_
    rcases iteS h with ⟨hc34, h⟩ | ⟨hc34, h⟩
    · refine WC.condT rfl hc34 ?_
      refine WC.skip ?_
      refine KX.seq_n ?_
      refine WC.seq ?_
      refine WC.block ?_
      refine WC.region ?_
      refine WO.step (v := (.int .i64 x29)) rfl rfl ?_
      refine WO.step (v := (.int .i64 (ml .i64 256 x29))) rfl rfl ?_
      refine WO.step (v := (.str a27)) rfl rfl ?_
      refine WO.step (v := (.int .i64 x30)) rfl rfl ?_
      refine WO.step (v := (.int .i64 (ad .i64 2 x30))) rfl rfl ?_
      obtain ⟨c33, hc33, h⟩ := bindS h
      refine WO.step (v := (.int .u8 c33)) rfl (stp_idxStr rfl rfl rfl hc33) ?_
      refine WO.step (v := (.int .i64 (cv .i64 c33))) rfl rfl ?_
      refine WO.step (v := (.int .i64 (ad .i64 (ml .i64 256 x29) (cv .i64 c33)))) rfl rfl ?_
      refine WO.step (v := (.int .i64 (ad .i64 (ml .i64 256 x29) (cv .i64 c33)))) rfl rfl ?_
      refine WO.nil ?_
      refine KX.block_n ?_
      refine KX.seq_n ?_
      refine WC.region ?_
      refine WO.step (v := (.int .i64 x30)) rfl rfl ?_
      refine WO.step (v := (.int .i64 (ad .i64 x30 1))) rfl rfl ?_
      refine WO.step (v := (.int .i64 (ad .i64 x30 1))) rfl rfl ?_
      refine WO.nil ?_
      refine KX.seq_n ?_
      exact ih h  (known_cons rfl (known_cons rfl (known_cons rfl (known_cons rfl known_nil)))) (H.sub .slnil .slnil)
    · refine WC.condF rfl hc34 ?_
      refine WC.exit ?_
      refine KX.seq_x ?_
      refine KX.seq_x ?_
      obtain rfl := Option.some.inj h
      exact hbrk  (known_cons rfl (known_cons rfl (known_cons rfl known_nil))) (H.sub .slnil .slnil)
theorem s14 : ∀ k : Nat, ∀ {a0 : Str} {r : Int × Int × Int}, F14 k a0 = some r → ∀ {vs : List PV}, vs.map PV.strip = [(.str a0)] → ∀ S : List SObj, evw env 14 vs S = some ((.tup [(.int .i64 r.1), (.int .i64 r.2.1), (.int .i64 r.2.2)]), S, false) := by
  intro k a0 r h vs ha S
  unfold F14 at h
  refine evw_pureW (pf := fn14) rfl rfl ha (Nat.le_of_ble_eq_true rfl) rfl rfl ?_
  refine WB.of (pf := fn14) rfl ?_
  have H := Hp.start []
  refine WC.seqR ?_
  refine WO.step (v := (.int .i64 0)) rfl rfl ?_
  refine WO.step (v := (.int .i64 0)) rfl rfl ?_
  refine WO.step (v := (.int .i64 0)) rfl rfl ?_
  refine WO.nil ?_
  refine WC.seq ?_
  refine WC.seqR ?_
  refine WO.step (v := (.str a0)) rfl rfl ?_
  refine WO.step (v := (.int .i64 (Str.len a0))) rfl rfl ?_
  refine WO.step (v := (.bool ((Str.len a0) == 0))) rfl rfl ?_
  refine WO.nil ?_
  rcases iteS h with ⟨hc43, h⟩ | ⟨hc43, h⟩
  · refine WC.condT rfl hc43 ?_
    refine WC.seqR ?_
    refine WO.step (v := (.int .i64 0)) rfl rfl ?_
    refine WO.step (v := (.int .i64 0)) rfl rfl ?_
    refine WO.step (v := (.int .i64 10)) rfl rfl ?_
    refine WO.nil ?_
    refine WC.ret ?_
    refine KX.seq_r ?_
    obtain rfl := Option.some.inj h
    refine KB.ret (vs := [(.int .i64 0), (.int .i64 0), (.int .i64 10)]) (res_tmp rfl (res_tmp rfl (res_tmp rfl res_nil))) ?_
    exact rfl
  · refine WC.condF rfl hc43 ?_
    refine WC.skip ?_
    refine KX.seq_n ?_
    refine WC.seq ?_
    refine WC.seqR ?_
    refine WO.step (v := (.str a0)) rfl rfl ?_
    obtain ⟨c2, hc2, h⟩ := bindS h
    refine WO.step (v := (.int .u8 c2)) rfl (stp_idxStr rfl rfl rfl hc2) ?_
    refine WO.step (v := (.int .u8 (bAnd .u8 c2 31))) rfl rfl ?_
    refine WO.step (v := (.bool ((bAnd .u8 c2 31) == 31))) rfl rfl ?_
    refine WO.nil ?_
    rcases iteS h with ⟨hc42, h⟩ | ⟨hc42, h⟩
    · refine WC.condT rfl hc42 ?_
      refine WC.seqR ?_
      refine WO.step (v := (.int .i64 0)) rfl rfl ?_
      refine WO.step (v := (.int .i64 0)) rfl rfl ?_
      refine WO.step (v := (.int .i64 14)) rfl rfl ?_
      refine WO.nil ?_
      refine WC.ret ?_
      refine KX.seq_r ?_
      obtain rfl := Option.some.inj h
      refine KB.ret (vs := [(.int .i64 0), (.int .i64 0), (.int .i64 14)]) (res_tmp rfl (res_tmp rfl (res_tmp rfl res_nil))) ?_
      exact rfl
    · refine WC.condF rfl hc42 ?_
      refine WC.skip ?_
      refine KX.seq_n ?_
      refine WC.seq ?_
      refine WC.seqR ?_
      refine WO.step (v := (.str a0)) rfl rfl ?_
      refine WO.step (v := (.int .i64 (Str.len a0))) rfl rfl ?_
      refine WO.step (v := (.bool ((Str.len a0) == 1))) rfl rfl ?_
      refine WO.nil ?_
      rcases iteS h with ⟨hc41, h⟩ | ⟨hc41, h⟩
      · refine WC.condT rfl hc41 ?_
        refine WC.seqR ?_
        refine WO.step (v := (.int .i64 0)) rfl rfl ?_
        refine WO.step (v := (.int .i64 0)) rfl rfl ?_
        refine WO.step (v := (.int .i64 10)) rfl rfl ?_
        refine WO.nil ?_
        refine WC.ret ?_
        refine KX.seq_r ?_
        obtain rfl := Option.some.inj h
        refine KB.ret (vs := [(.int .i64 0), (.int .i64 0), (.int .i64 10)]) (res_tmp rfl (res_tmp rfl (res_tmp rfl res_nil))) ?_
        exact rfl
      · refine WC.condF rfl hc41 ?_
        refine WC.skip ?_
        refine KX.seq_n ?_
        refine WC.seq ?_
        refine WC.seqR ?_
        refine WO.step (v := (.str a0)) rfl rfl ?_
        obtain ⟨c5, hc5, h⟩ := bindS h
        refine WO.step (v := (.int .u8 c5)) rfl (stp_idxStr rfl rfl rfl hc5) ?_
        refine WO.step (v := (.bool (decide (c5 < 128)))) rfl rfl ?_
        refine WO.nil ?_
        rcases iteS h with ⟨hc40, h⟩ | ⟨hc40, h⟩
        · refine WC.condT rfl hc40 ?_
          refine WC.seq ?_
          refine WC.draw ?_
          refine WH.step (v := (.str a0)) rfl rfl rfl rfl ?_
          obtain ⟨c8, hc8, h⟩ := bindS h
          refine WH.step (v := (.int .u8 c8)) rfl (stp_idxStr rfl rfl rfl hc8) rfl rfl ?_
          refine WH.step (v := (.int .i64 (cv .i64 c8))) rfl rfl rfl rfl ?_
          refine WH.step (v := (.int .i64 2)) rfl rfl rfl rfl ?_
          refine WH.nil ?_
          refine WO.step (v := (.int .i64 (cv .i64 c8))) rfl rfl ?_
          refine WO.step (v := (.int .i64 0)) rfl rfl ?_
          refine WO.nil ?_
          refine KX.seq_n ?_
          refine WC.ret ?_
          refine KX.seq_r ?_
          obtain rfl := Option.some.inj h
          refine KB.ret (vs := [(.int .i64 2), (.int .i64 (cv .i64 c8)), (.int .i64 0)]) (res_tmp rfl (res_tmp rfl (res_tmp rfl res_nil))) ?_
          exact rfl
        · refine WC.condF rfl hc40 ?_
          refine WC.skip ?_
          refine KX.seq_n ?_
          refine WC.seqR ?_
          refine WO.step (v := (.str a0)) rfl rfl ?_
          obtain ⟨c9, hc9, h⟩ := bindS h
          refine WO.step (v := (.int .u8 c9)) rfl (stp_idxStr rfl rfl rfl hc9) ?_
          refine WO.step (v := (.int .i64 (cv .i64 c9))) rfl rfl ?_
          refine WO.step (v := (.int .i64 (sb .i64 (cv .i64 c9) 128))) rfl rfl ?_
          refine WO.step (v := (.int .i64 (sb .i64 (cv .i64 c9) 128))) rfl rfl ?_
          refine WO.nil ?_
          refine WC.seq ?_
          refine WC.seqR ?_
          refine WO.step (v := (.int .i64 (sb .i64 (cv .i64 c9) 128))) rfl rfl ?_
          refine WO.step (v := (.bool (decide ((sb .i64 (cv .i64 c9) 128) < 1)))) rfl rfl ?_
          refine WO.step (v := (.bool (decide ((sb .i64 (cv .i64 c9) 128) < 1)))) rfl rfl ?_
          refine WO.split 3 (fun σ' S' e' => Known ([(0, (.str a0)), (5, (.int .i64 (sb .i64 (cv .i64 c9) 128))), (33, (.bool ((decide ((sb .i64 (cv .i64 c9) 128) < 1)) || (decide ((sb .i64 (cv .i64 c9) 128) > 4)))))]) σ' ∧ Hp [] [] S' [] [] ∧ e' = false) ?_ ?_
          · cases hc10 : (decide ((sb .i64 (cv .i64 c9) 128) < 1))
            · skip
              refine WO.go0 rfl rfl ?_
              refine WO.step (v := (.int .i64 (sb .i64 (cv .i64 c9) 128))) rfl rfl ?_
              refine WO.go0 rfl rfl ?_
              refine WO.step (v := (.bool (decide ((sb .i64 (cv .i64 c9) 128) > 4)))) rfl rfl ?_
              refine WO.step (v := (.bool (decide ((sb .i64 (cv .i64 c9) 128) > 4)))) rfl rfl ?_
              refine WO.nil ?_
              exact ⟨(known_cons rfl (known_cons rfl (known_cons rfl known_nil))), H, rfl⟩
            · skip
              refine WO.by rfl rfl rfl ?_
              refine WO.by rfl rfl rfl ?_
              refine WO.step (v := (.bool true)) rfl rfl ?_
              refine WO.nil ?_
              exact ⟨(known_cons rfl (known_cons rfl (known_cons rfl known_nil))), H, rfl⟩
          · rintro σ S e ⟨hk, H, rfl⟩
            refine WO.of_known hk ?_
            refine WO.nil ?_
            rcases iteS h with ⟨hc39, h⟩ | ⟨hc39, h⟩
            · refine WC.condT rfl hc39 ?_
              refine WC.seqR ?_
              refine WO.step (v := (.int .i64 0)) rfl rfl ?_
              refine WO.step (v := (.int .i64 0)) rfl rfl ?_
              refine WO.step (v := (.int .i64 11)) rfl rfl ?_
              refine WO.nil ?_
              refine WC.ret ?_
              refine KX.seq_r ?_
              obtain rfl := Option.some.inj h
              refine KB.ret (vs := [(.int .i64 0), (.int .i64 0), (.int .i64 11)]) (res_tmp rfl (res_tmp rfl (res_tmp rfl res_nil))) ?_
              exact rfl
            · refine WC.condF rfl hc39 ?_
              refine WC.skip ?_
              refine KX.seq_n ?_
              refine WC.seq ?_
              refine WC.seqR ?_
              refine WO.step (v := (.str a0)) rfl rfl ?_
              refine WO.step (v := (.int .i64 (Str.len a0))) rfl rfl ?_
              refine WO.step (v := (.int .i64 (sb .i64 (cv .i64 c9) 128))) rfl rfl ?_
              refine WO.step (v := (.int .i64 (ad .i64 2 (sb .i64 (cv .i64 c9) 128)))) rfl rfl ?_
              refine WO.step (v := (.bool (decide ((Str.len a0) < (ad .i64 2 (sb .i64 (cv .i64 c9) 128)))))) rfl rfl ?_
              refine WO.nil ?_
              rcases iteS h with ⟨hc38, h⟩ | ⟨hc38, h⟩
              · refine WC.condT rfl hc38 ?_
                refine WC.seqR ?_
                refine WO.step (v := (.int .i64 0)) rfl rfl ?_
                refine WO.step (v := (.int .i64 0)) rfl rfl ?_
                refine WO.step (v := (.int .i64 10)) rfl rfl ?_
                refine WO.nil ?_
                refine WC.ret ?_
                refine KX.seq_r ?_
                obtain rfl := Option.some.inj h
                refine KB.ret (vs := [(.int .i64 0), (.int .i64 0), (.int .i64 10)]) (res_tmp rfl (res_tmp rfl (res_tmp rfl res_nil))) ?_
                exact rfl
              · refine WC.condF rfl hc38 ?_
                refine WC.skip ?_
                refine KX.seq_n ?_
                refine WC.seqR ?_
                refine WO.step (v := (.int .i64 0)) rfl rfl ?_
                refine WO.nil ?_
                refine WC.seq ?_
                refine WC.seqR ?_
                refine WO.step (v := (.int .i64 0)) rfl rfl ?_
                refine WO.nil ?_
                obtain ⟨y35, hy35, hOy35⟩ := bindS h
                refine WC.block ?_
                refine l14_L0 ?_ hy35  (known_cons rfl (known_cons rfl (known_cons rfl (known_cons rfl known_nil)))) (H.sub .slnil .slnil)
                · intro σ S  hk H; replace h := hOy35
                  refine KX.of_known hk ?_
                  refine KX.block_x ?_
                  refine KX.seq_n ?_
                  refine WC.seq ?_
                  refine WC.seqR ?_
                  refine WO.step (v := (.int .i64 y35.1)) rfl rfl ?_
                  refine WO.step (v := (.bool (decide (y35.1 > 4000)))) rfl rfl ?_
                  refine WO.nil ?_
                  rcases iteS h with ⟨hc37, h⟩ | ⟨hc37, h⟩
                  · refine WC.condT rfl hc37 ?_
                    refine WC.seqR ?_
                    refine WO.step (v := (.int .i64 0)) rfl rfl ?_
                    refine WO.step (v := (.int .i64 0)) rfl rfl ?_
                    refine WO.step (v := (.int .i64 13)) rfl rfl ?_
                    refine WO.nil ?_
                    refine WC.ret ?_
                    refine KX.seq_r ?_
                    obtain rfl := Option.some.inj h
                    refine KB.ret (vs := [(.int .i64 0), (.int .i64 0), (.int .i64 13)]) (res_tmp rfl (res_tmp rfl (res_tmp rfl res_nil))) ?_
                    exact rfl
                  · refine WC.condF rfl hc37 ?_
                    refine WC.skip ?_
                    refine KX.seq_n ?_
                    refine WC.seqR ?_
                    refine WO.step (v := (.int .i64 (sb .i64 (cv .i64 c9) 128))) rfl rfl ?_
                    refine WO.step (v := (.int .i64 (ad .i64 2 (sb .i64 (cv .i64 c9) 128)))) rfl rfl ?_
                    refine WO.step (v := (.int .i64 y35.1)) rfl rfl ?_
                    refine WO.step (v := (.int .i64 (ad .i64 2 (sb .i64 (cv .i64 c9) 128)))) rfl rfl ?_
                    refine WO.step (v := (.int .i64 y35.1)) rfl rfl ?_
                    refine WO.step (v := (.int .i64 0)) rfl rfl ?_
                    refine WO.nil ?_
                    refine WC.ret ?_
                    obtain rfl := Option.some.inj h
                    refine KB.ret (vs := [(.int .i64 (ad .i64 2 (sb .i64 (cv .i64 c9) 128))), (.int .i64 y35.1), (.int .i64 0)]) (res_tmp rfl (res_tmp rfl (res_tmp rfl res_nil))) ?_
                    exact rfl
-- 23 prefect/prefectref1.read
def F23_L0 (rc0 : Str → Int → Int → Int → Option (Api_Element × Int × Int × Int)) (k : Nat) (a85 : Str) (a86 : Int) (a87 : Int) (a88 : Int) (a89 : Int) (a93 : Api_Element) : Nat → Int → Api_Element → Option (Out (Api_Element × Int × Int × Int) (Int × Api_Element))
  | 0, _, _ => none
  | n + 1, x90, b91 =>
    if decide (x90 < (ad .i64 (ad .i64 a86 a88) a89)) then
    Option.bind (rc0 a85 x90 (ad .i64 (ad .i64 a86 a88) a89) (ad .i64 a87 1)) fun y102 =>
    if y102.2.2.2 != 0 then
    some (Out.ret ((Api_Element.mk 0 [] none), 0, y102.2.2.1, y102.2.2.2))
    else
    Option.bind (Sl.app? 48 b91.Kids (Sl.l (some [y102.1]))) fun z106 =>
    F23_L0 rc0 k a85 a86 a87 a88 a89 a93 n (ad .i64 x90 y102.2.1) (Api_Element.mk b91.Tag b91.Body z106)
    else
    some (Out.brk (x90, b91))
/-- prefect/prefectref1.read -/
def F23 : Nat → Str → Int → Int → Int → Option (Api_Element × Int × Int × Int)
  | 0, _, _, _, _ => none
  | k + 1, a0, a1, a2, a3 =>
    if decide (a3 > 20) then
    some ((Api_Element.mk 0 [] none), 0, a1, 12)
    else
    Option.bind (Str.sub? a0 a1 a2) fun z3 =>
    Option.bind (F14 k z3) fun y4 =>
    Option.bind (if (y4.2.2 == 0) && (decide ((ad .i64 (ad .i64 a1 y4.1) y4.2.1) > a2)) then
    some 10
    else
    some y4.2.2) fun y8 =>
    Option.bind (if (y8 == 10) && (decide (a3 > 1)) then
    some 11
    else
    some y8) fun y13 =>
    if y13 != 0 then
    some ((Api_Element.mk 0 [] none), 0, a1, y13)
    else
    Option.bind (Str.at? a0 a1) fun c16 =>
    Option.bind (Str.at? a0 a1) fun c18 =>
    if (bAnd .u8 c18 32) == 0 then
    Option.bind (Str.sub? a0 (ad .i64 a1 y4.1) (ad .i64 (ad .i64 a1 y4.1) y4.2.1)) fun z21 =>
    some ((Api_Element.mk c16 z21 none), ad .i64 y4.1 y4.2.1, 0, 0)
    else
    Option.bind (F23_L0 (F23 k) k a0 a1 a3 y4.1 y4.2.1 (Api_Element.mk 0 [] none) k (ad .i64 a1 y4.1) (Api_Element.mk c16 [] none)) fun y112 =>
    match y112 with
    | .ret y112r => some y112r
    | .brk y112b =>
    some (y112b.2, ad .i64 y4.1 y4.2.1, 0, 0)
theorem l23_L0 {rc0 : Str → Int → Int → Int → Option (Api_Element × Int × Int × Int)} (hrc0 : ∀ {a0 : Str} {a1 : Int} {a2 : Int} {a3 : Int} {r : Api_Element × Int × Int × Int}, rc0 a0 a1 a2 a3 = some r → ∀ {vs : List PV}, vs.map PV.strip = [(.str a0), (.int .i64 a1), (.int .i64 a2), (.int .i64 a3)] → ∀ S : List SObj, evw env 23 vs S = some ((.tup [(.agg [(.int .u8 r.1.Tag), (.str r.1.Body), (encSl e_Api_Element r.1.Kids)]), (.int .i64 r.2.1), (.int .i64 r.2.2.1), (.int .i64 r.2.2.2)]), S, false)) {k : Nat} {a85 : Str} {a86 : Int} {a87 : Int} {a88 : Int} {a89 : Int} {a93 : Api_Element} {S0 : List SObj} {R : List Nat} {K : KX} {i17 : Nat} {i1 : Nat} (hi17 : S0.length ≤ i17) (hi1 : S0.length ≤ i1)  {o : Out (Api_Element × Int × Int × Int) (Int × Api_Element)}
    (hret : ∀ r : Api_Element × Int × Int × Int, o = .ret r → ∀ {σ' : Nat → PV} {S' : List SObj} (v111 : PV) (_ : IsSl e_Api_Element r.1.Kids v111), Known [(8, (.ptr i1 0)), (9, (.int .i64 r.2.1)), (10, (.int .i64 r.2.2.1)), (11, (.int .i64 r.2.2.2))] σ' → Hp S0 R S' [(i1, [(.int .u8 r.1.Tag), (.str r.1.Body), v111])] [] → K .ret σ' S' false)
    (hbrk : ∀ y : Int × Api_Element, o = .brk y → ∀ {σ' : Nat → PV} {S' : List SObj}, ∀ (v110 : PV) (_ : IsSl e_Api_Element y.2.Kids v110), Known [(8, (.ptr i1 0)), (12, (.int .i64 a88)), (13, (.int .i64 a89)), (15, (.ptr i17 0)), (16, (.int .i64 y.1))] σ' → Hp S0 R S' [(i17, [(.int .u8 y.2.Tag), (.str y.2.Body), v110]), (i1, [(.int .u8 a93.Tag), (.str a93.Body), .nils])] [(v110, 3)] → K (.exit 0) σ' S' false) :
    ∀ {n : Nat} {x90 : Int} {b91 : Api_Element}, F23_L0 rc0 k a85 a86 a87 a88 a89 a93 n x90 b91 = some o → ∀ {σ : Nat → PV} {S : List SObj}, ∀ (v92 : PV) (_ : IsSl e_Api_Element b91.Kids v92), Known [(0, (.str a85)), (1, (.int .i64 a86)), (3, (.int .i64 a87)), (8, (.ptr i1 0)), (12, (.int .i64 a88)), (13, (.int .i64 a89)), (15, (.ptr i17 0)), (16, (.int .i64 x90))] σ → Hp S0 R S [(i17, [(.int .u8 b91.Tag), (.str b91.Body), v92]), (i1, [(.int .u8 a93.Tag), (.str a93.Body), .nils])] [(v92, 3)] → WC env ⟨123, S0.length⟩ (.loop pc23L0) σ S false K := by
  intro n
  induction n with
  | zero => intro _ _ h; cases h
  | succ n ih =>
    intro x90 b91 h σ S v92 hv92 hk H
    rw [F23_L0] at h
    refine WC.loop ?_
    refine WC.of_known hk ?_
    refine WC.seq ?_
    refine WC.seqR ?_
    refine WO.step (v := (.int .i64 x90)) rfl rfl ?_
    refine WO.step (v := (.int .i64 a86)) rfl rfl ?_
    refine WO.step (v := (.int .i64 a88)) rfl rfl ?_
    refine WO.step (v := (.int .i64 (ad .i64 a86 a88))) rfl rfl ?_
    refine WO.step (v := (.int .i64 a89)) rfl rfl ?_
    refine WO.step (v := (.int .i64 (ad .i64 (ad .i64 a86 a88) a89))) rfl rfl ?_
    refine WO.step (v := (.bool (decide (x90 < (ad .i64 (ad .i64 a86 a88) a89))))) rfl rfl ?_
    refine WO.nil ?_
    rcases iteS h with ⟨hc109, h⟩ | ⟨hc109, h⟩
    · refine WC.condT rfl hc109 ?_
      refine WC.skip ?_
      refine KX.seq_n ?_
      refine WC.block ?_
      refine WC.seqR ?_
      refine WO.step (v := (.str a85)) rfl rfl ?_
      refine WO.step (v := (.int .i64 x90)) rfl rfl ?_
      refine WO.step (v := (.int .i64 a86)) rfl rfl ?_
      refine WO.step (v := (.int .i64 a88)) rfl rfl ?_
      refine WO.step (v := (.int .i64 (ad .i64 a86 a88))) rfl rfl ?_
      refine WO.step (v := (.int .i64 a89)) rfl rfl ?_
      refine WO.step (v := (.int .i64 (ad .i64 (ad .i64 a86 a88) a89))) rfl rfl ?_
      refine WO.step (v := (.int .i64 a87)) rfl rfl ?_
      refine WO.step (v := (.int .i64 (ad .i64 a87 1))) rfl rfl ?_
      obtain ⟨y102, hy102, h⟩ := bindS h
      refine WO.step (v := (.tup [(.agg [(.int .u8 y102.1.Tag), (.str y102.1.Body), (encSl e_Api_Element y102.1.Kids)]), (.int .i64 y102.2.1), (.int .i64 y102.2.2.1), (.int .i64 y102.2.2.2)])) rfl (stp_call (vs := [(.str a85), (.int .i64 x90), (.int .i64 (ad .i64 (ad .i64 a86 a88) a89)), (.int .i64 (ad .i64 a87 1))]) rfl rfl (hrc0 hy102 rfl _)) ?_
      refine WO.step (v := (.tup [(.agg [(.int .u8 y102.1.Tag), (.str y102.1.Body), (encSl e_Api_Element y102.1.Kids)]), (.int .i64 y102.2.1), (.int .i64 y102.2.2.1), (.int .i64 y102.2.2.2)])) rfl rfl ?_
      refine WO.step (v := (.agg [(.int .u8 y102.1.Tag), (.str y102.1.Body), (encSl e_Api_Element y102.1.Kids)])) rfl rfl ?_
      refine WO.step (v := (.int .i64 y102.2.1)) rfl rfl ?_
      refine WO.step (v := (.int .i64 y102.2.2.1)) rfl rfl ?_
      refine WO.step (v := (.int .i64 y102.2.2.2)) rfl rfl ?_
      refine WO.alloc' (ti := ty25) rfl rfl rfl rfl H ?_
      intro i103 S hi103 H
      refine WO.store 0 rfl H rfl rfl rfl rfl rfl rfl rfl (Nat.le_of_ble_eq_true rfl) rfl (own_e hi103) ?_
      intro S H
      replace H : Hp S0 R _ [(i103, [(.int .u8 y102.1.Tag), (.str y102.1.Body), (encSl e_Api_Element y102.1.Kids)]), (i17, [(.int .u8 b91.Tag), (.str b91.Body), v92]), (i1, [(.int .u8 a93.Tag), (.str a93.Body), .nils])] [(v92, 3)] := H
      refine WO.step (v := (.int .i64 y102.2.1)) rfl rfl ?_
      refine WO.step (v := (.int .i64 y102.2.2.1)) rfl rfl ?_
      refine WO.step (v := (.int .i64 y102.2.2.2)) rfl rfl ?_
      refine WO.nil ?_
      refine WC.seq ?_
      refine WC.seqR ?_
      refine WO.step (v := (.int .i64 y102.2.2.2)) rfl rfl ?_
      refine WO.step (v := (.bool (y102.2.2.2 != 0))) rfl rfl ?_
      refine WO.nil ?_
      rcases iteS h with ⟨hc108, h⟩ | ⟨hc108, h⟩
      · refine WC.condT rfl hc108 ?_
        refine WC.seqR ?_
        refine WO.step (v := (.agg [(.int .u8 0), (.str []), .nils])) rfl (stp_build (ti := ty25) rfl rfl rfl rfl rfl rfl) ?_
        refine WO.step (v := (.int .i64 y102.2.2.1)) rfl rfl ?_
        refine WO.step (v := (.int .i64 y102.2.2.2)) rfl rfl ?_
        refine WO.store 2 rfl H rfl rfl rfl rfl rfl rfl rfl (Nat.le_of_ble_eq_true rfl) rfl (own_e hi1) ?_
        intro S H
        replace H : Hp S0 R _ [(i103, [(.int .u8 y102.1.Tag), (.str y102.1.Body), (encSl e_Api_Element y102.1.Kids)]), (i17, [(.int .u8 b91.Tag), (.str b91.Body), v92]), (i1, [(.int .u8 0), (.str []), .nils])] [(v92, 3)] := H
        refine WO.step (v := (.int .i64 0)) rfl rfl ?_
        refine WO.step (v := (.int .i64 y102.2.2.1)) rfl rfl ?_
        refine WO.step (v := (.int .i64 y102.2.2.2)) rfl rfl ?_
        refine WO.nil ?_
        refine WC.ret ?_
        refine KX.seq_r ?_
        refine KX.block_r ?_
        refine KX.seq_r ?_
        obtain rfl := Option.some.inj h
        exact hret _ rfl .nils (isSl_nil _) (known_cons rfl (known_cons rfl (known_cons rfl (known_cons rfl known_nil)))) (H.sub (.cons _ (.cons _ (.cons_cons _ .slnil))) (.cons _ .slnil))
      · refine WC.condF rfl hc108 ?_
        refine WC.skip ?_
        refine KX.seq_n ?_
        refine WC.seqR ?_
        refine WO.step (v := (.ptr i17 2)) rfl rfl ?_
        refine WO.step (v := v92) rfl (stp_load rfl (H.get 1 rfl) rfl) ?_
        refine WO.step (v := (.agg [(.int .u8 y102.1.Tag), (.str y102.1.Body), (encSl e_Api_Element y102.1.Kids)])) rfl (stp_load rfl (H.get 0 rfl) rfl) ?_
        refine WO.step rfl (stp_buildSlice (ys := [y102.1]) (f := e_Api_Element) (parts := [(0, (.agg [(.int .u8 y102.1.Tag), (.str y102.1.Body), (encSl e_Api_Element y102.1.Kids)]))]) rfl rfl rfl rfl rfl (by simp only [st_agg, List.map_cons, List.map_nil, st1_int, st1_str, strip1_enc, e_Api_Element_eq, tupled]) (fc ⟨rfl, rfl⟩ (fun p hp => nomatch hp)) rfl) ?_
        have hv105 : IsSl e_Api_Element (some [y102.1]) _ := ⟨.full, rfl⟩
        obtain ⟨z106, hz106, h⟩ := bindS h
        refine WO.ex rfl (stp_app (f := e_Api_Element) (ei := ty25) H 0 rfl rfl hv92 rfl hv105 rfl rfl rfl rfl (fun a => (e_Api_Element_one a).2.1) hz106) ?_
        rintro v107 S ⟨hv107, H⟩
        replace H : Hp S0 R _ [(i103, [(.int .u8 y102.1.Tag), (.str y102.1.Body), (encSl e_Api_Element y102.1.Kids)]), (i17, [(.int .u8 b91.Tag), (.str b91.Body), v92]), (i1, [(.int .u8 a93.Tag), (.str a93.Body), .nils])] [(v107, 3)] := H
        refine WO.step (v := (.ptr i17 2)) rfl rfl ?_
        refine WO.store 1 rfl H rfl rfl rfl rfl hv107.one.1 hv107.one.2 rfl (Nat.le_of_ble_eq_true rfl) rfl (own_e hi17) ?_
        intro S H
        replace H : Hp S0 R _ [(i103, [(.int .u8 y102.1.Tag), (.str y102.1.Body), (encSl e_Api_Element y102.1.Kids)]), (i17, [(.int .u8 b91.Tag), (.str b91.Body), v107]), (i1, [(.int .u8 a93.Tag), (.str a93.Body), .nils])] [(v107, 3)] := H
        refine WO.nil ?_
        refine WC.region ?_
        refine WO.step (v := (.int .i64 x90)) rfl rfl ?_
        refine WO.step (v := (.int .i64 y102.2.1)) rfl rfl ?_
        refine WO.step (v := (.int .i64 (ad .i64 x90 y102.2.1))) rfl rfl ?_
        refine WO.step (v := (.int .i64 (ad .i64 x90 y102.2.1))) rfl rfl ?_
        refine WO.nil ?_
        refine KX.block_n ?_
        refine KX.seq_n ?_
        exact ih h v107 (hv107) (known_cons rfl (known_cons rfl (known_cons rfl (known_cons rfl (known_cons rfl (known_cons rfl (known_cons rfl (known_cons rfl known_nil)))))))) (H.sub (.cons _ (.cons_cons _ (.cons_cons _ .slnil))) (.cons_cons _ .slnil))
    · refine WC.condF rfl hc109 ?_
      refine WC.exit ?_
      refine KX.seq_x ?_
      refine KX.seq_x ?_
      obtain rfl := Option.some.inj h
      exact hbrk _ rfl v92 (hv92) (known_cons rfl (known_cons rfl (known_cons rfl (known_cons rfl (known_cons rfl known_nil))))) (H.sub (.cons_cons _ (.cons_cons _ .slnil)) (.cons_cons _ .slnil))
theorem s23 : ∀ k : Nat, ∀ {a0 : Str} {a1 : Int} {a2 : Int} {a3 : Int} {r : Api_Element × Int × Int × Int}, F23 k a0 a1 a2 a3 = some r → ∀ {vs : List PV}, vs.map PV.strip = [(.str a0), (.int .i64 a1), (.int .i64 a2), (.int .i64 a3)] → ∀ S : List SObj, evw env 23 vs S = some ((.tup [(.agg [(.int .u8 r.1.Tag), (.str r.1.Body), (encSl e_Api_Element r.1.Kids)]), (.int .i64 r.2.1), (.int .i64 r.2.2.1), (.int .i64 r.2.2.2)]), S, false) := by
  intro k
  induction k with
  | zero => intro _ _ _ _ r h; cases h
  | succ k ih =>
    intro a0 a1 a2 a3 r h vs ha S
    rw [F23] at h
    refine evw_pureW (pf := fn23) rfl rfl ha (Nat.le_of_ble_eq_true rfl) rfl (by simp [PV.clean, cleanL, clean_encSl clean_Api_Element]) ?_
    refine WB.of (pf := fn23) rfl ?_
    have H := Hp.start []
    refine WC.seqR ?_
    refine WO.alloc' (ti := ty25) rfl rfl rfl rfl H ?_
    intro i1 S hi1 H
    refine WO.step (v := (.int .i64 0)) rfl rfl ?_
    refine WO.step (v := (.int .i64 0)) rfl rfl ?_
    refine WO.step (v := (.int .i64 0)) rfl rfl ?_
    refine WO.nil ?_
    refine WC.seq ?_
    refine WC.seqR ?_
    refine WO.step (v := (.int .i64 a3)) rfl rfl ?_
    refine WO.step (v := (.bool (decide (a3 > 20)))) rfl rfl ?_
    refine WO.nil ?_
    rcases iteS h with ⟨hc117, h⟩ | ⟨hc117, h⟩
    · refine WC.condT rfl hc117 ?_
      refine WC.seqR ?_
      refine WO.step (v := (.agg [(.int .u8 0), (.str []), .nils])) rfl (stp_build (ti := ty25) rfl rfl rfl rfl rfl rfl) ?_
      refine WO.step (v := (.int .i64 a1)) rfl rfl ?_
      refine WO.store 0 rfl H rfl rfl rfl rfl rfl rfl rfl (Nat.le_of_ble_eq_true rfl) rfl (own_e hi1) ?_
      intro S H
      replace H : Hp [] [] _ [(i1, [(.int .u8 0), (.str []), .nils])] [] := H
      refine WO.step (v := (.int .i64 0)) rfl rfl ?_
      refine WO.step (v := (.int .i64 a1)) rfl rfl ?_
      refine WO.step (v := (.int .i64 12)) rfl rfl ?_
      refine WO.nil ?_
      refine WC.ret ?_
      refine KX.seq_r ?_
      obtain rfl := Option.some.inj h
      refine KB.ret (vs := [(.agg [(.int .u8 0), (.str []), .nils]), (.int .i64 0), (.int .i64 a1), (.int .i64 12)]) (res_cell rfl (H.get 0 rfl) rfl (res_tmp rfl (res_tmp rfl (res_tmp rfl res_nil)))) ?_
      exact (by simp only [st_tup, List.map_cons, List.map_nil, tupled, st2_agg, st1_int, st1_str, st1_nils, encSl_none, e_Api_Element_eq, st2_int])
    · refine WC.condF rfl hc117 ?_
      refine WC.skip ?_
      refine KX.seq_n ?_
      refine WC.seqR ?_
      refine WO.step (v := (.str a0)) rfl rfl ?_
      refine WO.step (v := (.int .i64 a1)) rfl rfl ?_
      refine WO.step (v := (.int .i64 a2)) rfl rfl ?_
      obtain ⟨z3, hz3, h⟩ := bindS h
      refine WO.step (v := (.str z3)) rfl (stp_subStr rfl rfl rfl rfl hz3) ?_
      obtain ⟨y4, hy4, h⟩ := bindS h
      refine WO.step (v := (.tup [(.int .i64 y4.1), (.int .i64 y4.2.1), (.int .i64 y4.2.2)])) rfl (stp_call (vs := [(.str z3)]) rfl rfl (s14 _ hy4 rfl _)) ?_
      refine WO.step (v := (.tup [(.int .i64 y4.1), (.int .i64 y4.2.1), (.int .i64 y4.2.2)])) rfl rfl ?_
      refine WO.step (v := (.int .i64 y4.1)) rfl rfl ?_
      refine WO.step (v := (.int .i64 y4.2.1)) rfl rfl ?_
      refine WO.step (v := (.int .i64 y4.2.2)) rfl rfl ?_
      refine WO.step (v := (.int .i64 y4.1)) rfl rfl ?_
      refine WO.step (v := (.int .i64 y4.2.1)) rfl rfl ?_
      refine WO.step (v := (.int .i64 y4.2.2)) rfl rfl ?_
      refine WO.nil ?_
      refine WC.seq ?_
      refine WC.seqR ?_
      refine WO.step (v := (.int .i64 y4.2.2)) rfl rfl ?_
      refine WO.step (v := (.bool (y4.2.2 == 0))) rfl rfl ?_
      refine WO.step (v := (.bool (y4.2.2 == 0))) rfl rfl ?_
      refine WO.split 8 (fun σ' S' e' => Known ([(0, (.str a0)), (1, (.int .i64 a1)), (3, (.int .i64 a3)), (8, (.ptr i1 0)), (12, (.int .i64 y4.1)), (13, (.int .i64 y4.2.1)), (14, (.int .i64 y4.2.2)), (44, (.bool ((y4.2.2 == 0) && (decide ((ad .i64 (ad .i64 a1 y4.1) y4.2.1) > a2)))))]) σ' ∧ Hp [] [] S' [(i1, [(.int .u8 0), (.str []), .nils])] [] ∧ e' = false) ?_ ?_
      · cases hc5 : (y4.2.2 == 0)
        · skip
          refine WO.by rfl rfl rfl ?_
          refine WO.by rfl rfl rfl ?_
          refine WO.by rfl rfl rfl ?_
          refine WO.by rfl rfl rfl ?_
          refine WO.by rfl rfl rfl ?_
          refine WO.by rfl rfl rfl ?_
          refine WO.by rfl rfl rfl ?_
          refine WO.step (v := (.bool false)) rfl rfl ?_
          refine WO.nil ?_
          exact ⟨(known_cons rfl (known_cons rfl (known_cons rfl (known_cons rfl (known_cons rfl (known_cons rfl (known_cons rfl (known_cons rfl known_nil)))))))), H, rfl⟩
        · skip
          refine WO.go0 rfl rfl ?_
          refine WO.step (v := (.int .i64 a1)) rfl rfl ?_
          refine WO.go0 rfl rfl ?_
          refine WO.step (v := (.int .i64 y4.1)) rfl rfl ?_
          refine WO.go0 rfl rfl ?_
          refine WO.step (v := (.int .i64 (ad .i64 a1 y4.1))) rfl rfl ?_
          refine WO.go0 rfl rfl ?_
          refine WO.step (v := (.int .i64 y4.2.1)) rfl rfl ?_
          refine WO.go0 rfl rfl ?_
          refine WO.step (v := (.int .i64 (ad .i64 (ad .i64 a1 y4.1) y4.2.1))) rfl rfl ?_
          refine WO.go0 rfl rfl ?_
          refine WO.step (v := (.int .i64 a2)) rfl rfl ?_
          refine WO.go0 rfl rfl ?_
          refine WO.step (v := (.bool (decide ((ad .i64 (ad .i64 a1 y4.1) y4.2.1) > a2)))) rfl rfl ?_
          refine WO.step (v := (.bool (decide ((ad .i64 (ad .i64 a1 y4.1) y4.2.1) > a2)))) rfl rfl ?_
          refine WO.nil ?_
          exact ⟨(known_cons rfl (known_cons rfl (known_cons rfl (known_cons rfl (known_cons rfl (known_cons rfl (known_cons rfl (known_cons rfl known_nil)))))))), H, rfl⟩
      · rintro σ S e ⟨hk, H, rfl⟩
        refine WO.of_known hk ?_
        refine WO.nil ?_
        obtain ⟨y8, hy8, hOy8⟩ := bindS h
        refine WC.join (fun σ' S' e' => Known ([(0, (.str a0)), (1, (.int .i64 a1)), (3, (.int .i64 a3)), (8, (.ptr i1 0)), (12, (.int .i64 y4.1)), (13, (.int .i64 y4.2.1)), (14, (.int .i64 y8))]) σ' ∧ Hp [] [] S' [(i1, [(.int .u8 0), (.str []), .nils])] [] ∧ e' = false) ?_ ?_
        · replace h := hy8
          rcases iteS h with ⟨hc9, h⟩ | ⟨hc9, h⟩
          · refine WC.condT rfl hc9 ?_
            refine WC.region ?_
            refine WO.step (v := (.int .i64 10)) rfl rfl ?_
            refine WO.nil ?_
            refine KX.seq_n ?_
            obtain rfl := Option.some.inj h
            exact ⟨(known_cons rfl (known_cons rfl (known_cons rfl (known_cons rfl (known_cons rfl (known_cons rfl (known_cons rfl known_nil))))))), (H.sub (.cons_cons _ .slnil) .slnil), rfl⟩
          · refine WC.condF rfl hc9 ?_
            refine WC.skip ?_
            refine KX.seq_n ?_
            obtain rfl := Option.some.inj h
            exact ⟨(known_cons rfl (known_cons rfl (known_cons rfl (known_cons rfl (known_cons rfl (known_cons rfl (known_cons rfl known_nil))))))), (H.sub (.cons_cons _ .slnil) .slnil), rfl⟩
        · rintro σ S e ⟨hk, H, rfl⟩
          replace h := hOy8
          refine KX.of_known hk ?_
          refine KX.seq_n ?_
          refine WC.seq ?_
          refine WC.seqR ?_
          refine WO.step (v := (.int .i64 y8)) rfl rfl ?_
          refine WO.step (v := (.bool (y8 == 10))) rfl rfl ?_
          refine WO.step (v := (.bool (y8 == 10))) rfl rfl ?_
          refine WO.split 3 (fun σ' S' e' => Known ([(0, (.str a0)), (1, (.int .i64 a1)), (3, (.int .i64 a3)), (8, (.ptr i1 0)), (12, (.int .i64 y4.1)), (13, (.int .i64 y4.2.1)), (14, (.int .i64 y8)), (50, (.bool ((y8 == 10) && (decide (a3 > 1)))))]) σ' ∧ Hp [] [] S' [(i1, [(.int .u8 0), (.str []), .nils])] [] ∧ e' = false) ?_ ?_
          · cases hc10 : (y8 == 10)
            · skip
              refine WO.by rfl rfl rfl ?_
              refine WO.by rfl rfl rfl ?_
              refine WO.step (v := (.bool false)) rfl rfl ?_
              refine WO.nil ?_
              exact ⟨(known_cons rfl (known_cons rfl (known_cons rfl (known_cons rfl (known_cons rfl (known_cons rfl (known_cons rfl (known_cons rfl known_nil)))))))), H, rfl⟩
            · skip
              refine WO.go0 rfl rfl ?_
              refine WO.step (v := (.int .i64 a3)) rfl rfl ?_
              refine WO.go0 rfl rfl ?_
              refine WO.step (v := (.bool (decide (a3 > 1)))) rfl rfl ?_
              refine WO.step (v := (.bool (decide (a3 > 1)))) rfl rfl ?_
              refine WO.nil ?_
              exact ⟨(known_cons rfl (known_cons rfl (known_cons rfl (known_cons rfl (known_cons rfl (known_cons rfl (known_cons rfl (known_cons rfl known_nil)))))))), H, rfl⟩
          · rintro σ S e ⟨hk, H, rfl⟩
            refine WO.of_known hk ?_
            refine WO.nil ?_
            obtain ⟨y13, hy13, hOy13⟩ := bindS h
            refine WC.join (fun σ' S' e' => Known ([(0, (.str a0)), (1, (.int .i64 a1)), (3, (.int .i64 a3)), (8, (.ptr i1 0)), (12, (.int .i64 y4.1)), (13, (.int .i64 y4.2.1)), (14, (.int .i64 y13))]) σ' ∧ Hp [] [] S' [(i1, [(.int .u8 0), (.str []), .nils])] [] ∧ e' = false) ?_ ?_
            · replace h := hy13
              rcases iteS h with ⟨hc14, h⟩ | ⟨hc14, h⟩
              · refine WC.condT rfl hc14 ?_
                refine WC.region ?_
                refine WO.step (v := (.int .i64 11)) rfl rfl ?_
                refine WO.nil ?_
                refine KX.seq_n ?_
                obtain rfl := Option.some.inj h
                exact ⟨(known_cons rfl (known_cons rfl (known_cons rfl (known_cons rfl (known_cons rfl (known_cons rfl (known_cons rfl known_nil))))))), (H.sub (.cons_cons _ .slnil) .slnil), rfl⟩
              · refine WC.condF rfl hc14 ?_
                refine WC.skip ?_
                refine KX.seq_n ?_
                obtain rfl := Option.some.inj h
                exact ⟨(known_cons rfl (known_cons rfl (known_cons rfl (known_cons rfl (known_cons rfl (known_cons rfl (known_cons rfl known_nil))))))), (H.sub (.cons_cons _ .slnil) .slnil), rfl⟩
            · rintro σ S e ⟨hk, H, rfl⟩
              replace h := hOy13
              refine KX.of_known hk ?_
              refine KX.seq_n ?_
              refine WC.seq ?_
              refine WC.seqR ?_
              refine WO.step (v := (.int .i64 y13)) rfl rfl ?_
              refine WO.step (v := (.bool (y13 != 0))) rfl rfl ?_
              refine WO.nil ?_
              rcases iteS h with ⟨hc116, h⟩ | ⟨hc116, h⟩
              · refine WC.condT rfl hc116 ?_
                refine WC.seqR ?_
                refine WO.step (v := (.agg [(.int .u8 0), (.str []), .nils])) rfl (stp_build (ti := ty25) rfl rfl rfl rfl rfl rfl) ?_
                refine WO.step (v := (.int .i64 a1)) rfl rfl ?_
                refine WO.step (v := (.int .i64 y13)) rfl rfl ?_
                refine WO.store 0 rfl H rfl rfl rfl rfl rfl rfl rfl (Nat.le_of_ble_eq_true rfl) rfl (own_e hi1) ?_
                intro S H
                replace H : Hp [] [] _ [(i1, [(.int .u8 0), (.str []), .nils])] [] := H
                refine WO.step (v := (.int .i64 0)) rfl rfl ?_
                refine WO.step (v := (.int .i64 a1)) rfl rfl ?_
                refine WO.step (v := (.int .i64 y13)) rfl rfl ?_
                refine WO.nil ?_
                refine WC.ret ?_
                refine KX.seq_r ?_
                obtain rfl := Option.some.inj h
                refine KB.ret (vs := [(.agg [(.int .u8 0), (.str []), .nils]), (.int .i64 0), (.int .i64 a1), (.int .i64 y13)]) (res_cell rfl (H.get 0 rfl) rfl (res_tmp rfl (res_tmp rfl (res_tmp rfl res_nil)))) ?_
                exact (by simp only [st_tup, List.map_cons, List.map_nil, tupled, st2_agg, st1_int, st1_str, st1_nils, encSl_none, e_Api_Element_eq, st2_int])
              · refine WC.condF rfl hc116 ?_
                refine WC.skip ?_
                refine KX.seq_n ?_
                refine WC.seqR ?_
                refine WO.step (v := (.str a0)) rfl rfl ?_
                refine WO.step (v := (.int .i64 a1)) rfl rfl ?_
                obtain ⟨c16, hc16, h⟩ := bindS h
                refine WO.step (v := (.int .u8 c16)) rfl (stp_idxStr rfl rfl rfl hc16) ?_
                refine WO.step (v := (.agg [(.int .u8 c16), (.str []), .nils])) rfl (stp_build (ti := ty25) rfl rfl rfl rfl rfl (fill_cons rfl rfl rfl rfl (Nat.le_of_ble_eq_true rfl) rfl rfl)) ?_
                refine WO.alloc' (ti := ty25) rfl rfl rfl rfl H ?_
                intro i17 S hi17 H
                refine WO.store 0 rfl H rfl rfl rfl rfl rfl rfl rfl (Nat.le_of_ble_eq_true rfl) rfl (own_e hi17) ?_
                intro S H
                replace H : Hp [] [] _ [(i17, [(.int .u8 c16), (.str []), .nils]), (i1, [(.int .u8 0), (.str []), .nils])] [] := H
                refine WO.nil ?_
                refine WC.seq ?_
                refine WC.seqR ?_
                refine WO.step (v := (.str a0)) rfl rfl ?_
                refine WO.step (v := (.int .i64 a1)) rfl rfl ?_
                obtain ⟨c18, hc18, h⟩ := bindS h
                refine WO.step (v := (.int .u8 c18)) rfl (stp_idxStr rfl rfl rfl hc18) ?_
                refine WO.step (v := (.int .u8 (bAnd .u8 c18 32))) rfl rfl ?_
                refine WO.step (v := (.bool ((bAnd .u8 c18 32) == 0))) rfl rfl ?_
                refine WO.nil ?_
                rcases iteS h with ⟨hc115, h⟩ | ⟨hc115, h⟩
                · refine WC.condT rfl hc115 ?_
                  refine WC.seqR ?_
                  refine WO.step (v := (.str a0)) rfl rfl ?_
                  refine WO.step (v := (.int .i64 a1)) rfl rfl ?_
                  refine WO.step (v := (.int .i64 y4.1)) rfl rfl ?_
                  refine WO.step (v := (.int .i64 (ad .i64 a1 y4.1))) rfl rfl ?_
                  refine WO.step (v := (.int .i64 a1)) rfl rfl ?_
                  refine WO.step (v := (.int .i64 y4.1)) rfl rfl ?_
                  refine WO.step (v := (.int .i64 (ad .i64 a1 y4.1))) rfl rfl ?_
                  refine WO.step (v := (.int .i64 y4.2.1)) rfl rfl ?_
                  refine WO.step (v := (.int .i64 (ad .i64 (ad .i64 a1 y4.1) y4.2.1))) rfl rfl ?_
                  obtain ⟨z21, hz21, h⟩ := bindS h
                  refine WO.step (v := (.str z21)) rfl (stp_subStr rfl rfl rfl rfl hz21) ?_
                  refine WO.step (v := (.ptr i17 1)) rfl rfl ?_
                  refine WO.store 0 rfl H rfl rfl rfl rfl rfl rfl rfl (Nat.le_of_ble_eq_true rfl) rfl (own_e hi17) ?_
                  intro S H
                  replace H : Hp [] [] _ [(i17, [(.int .u8 c16), (.str z21), .nils]), (i1, [(.int .u8 0), (.str []), .nils])] [] := H
                  refine WO.nil ?_
                  refine WC.seqR ?_
                  refine WO.step (v := (.agg [(.int .u8 c16), (.str z21), .nils])) rfl (stp_load rfl (H.get 0 rfl) rfl) ?_
                  refine WO.step (v := (.int .i64 y4.1)) rfl rfl ?_
                  refine WO.step (v := (.int .i64 y4.2.1)) rfl rfl ?_
                  refine WO.step (v := (.int .i64 (ad .i64 y4.1 y4.2.1))) rfl rfl ?_
                  refine WO.store 1 rfl H rfl rfl rfl rfl rfl rfl rfl (Nat.le_of_ble_eq_true rfl) rfl (own_e hi1) ?_
                  intro S H
                  replace H : Hp [] [] _ [(i17, [(.int .u8 c16), (.str z21), .nils]), (i1, [(.int .u8 c16), (.str z21), .nils])] [] := H
                  refine WO.step (v := (.int .i64 (ad .i64 y4.1 y4.2.1))) rfl rfl ?_
                  refine WO.step (v := (.int .i64 0)) rfl rfl ?_
                  refine WO.step (v := (.int .i64 0)) rfl rfl ?_
                  refine WO.nil ?_
                  refine WC.ret ?_
                  refine KX.seq_r ?_
                  obtain rfl := Option.some.inj h
                  refine KB.ret (vs := [(.agg [(.int .u8 c16), (.str z21), .nils]), (.int .i64 (ad .i64 y4.1 y4.2.1)), (.int .i64 0), (.int .i64 0)]) (res_cell rfl (H.get 1 rfl) rfl (res_tmp rfl (res_tmp rfl (res_tmp rfl res_nil)))) ?_
                  exact (by simp only [st_tup, List.map_cons, List.map_nil, tupled, st2_agg, st1_int, st1_str, st1_nils, encSl_none, e_Api_Element_eq, st2_int])
                · refine WC.condF rfl hc115 ?_
                  refine WC.skip ?_
                  refine KX.seq_n ?_
                  refine WC.seqR ?_
                  refine WO.step (v := (.int .i64 a1)) rfl rfl ?_
                  refine WO.step (v := (.int .i64 y4.1)) rfl rfl ?_
                  refine WO.step (v := (.int .i64 (ad .i64 a1 y4.1))) rfl rfl ?_
                  refine WO.step (v := (.int .i64 (ad .i64 a1 y4.1))) rfl rfl ?_
                  refine WO.nil ?_
                  refine WC.seq ?_
                  obtain ⟨y112, hy112, hOy112⟩ := bindS h
                  refine WC.block ?_
                  have H := H.addNil 3
                  refine l23_L0 ih hi17 hi1 ?_ ?_ hy112 .nils (isSl_nil _) (known_cons rfl (known_cons rfl (known_cons rfl (known_cons rfl (known_cons rfl (known_cons rfl (known_cons rfl (known_cons rfl known_nil)))))))) (H.sub (.cons_cons _ (.cons_cons _ .slnil)) (.cons_cons _ .slnil))
                  · intro y112r he σ S v114 hv114 hk H; subst he; replace h := hOy112; dsimp only at h
                    refine KX.of_known hk ?_
                    refine KX.block_r ?_
                    refine KX.seq_r ?_
                    obtain rfl := Option.some.inj h
                    refine KB.ret (vs := [(.agg [(.int .u8 y112r.1.Tag), (.str y112r.1.Body), v114]), (.int .i64 y112r.2.1), (.int .i64 y112r.2.2.1), (.int .i64 y112r.2.2.2)]) (res_cell rfl (H.get 0 rfl) rfl (res_tmp rfl (res_tmp rfl (res_tmp rfl res_nil)))) ?_
                    exact (by simp only [st_tup, List.map_cons, List.map_nil, tupled, st2_agg, st1_int, st1_str, hv114.strip1, e_Api_Element_eq, st2_int])
                  · intro y112b he σ S v113 hv113 hk H; subst he; replace h := hOy112; dsimp only at h
                    refine KX.of_known hk ?_
                    refine KX.block_x ?_
                    refine KX.seq_n ?_
                    refine WC.seqR ?_
                    refine WO.step (v := (.agg [(.int .u8 y112b.2.Tag), (.str y112b.2.Body), v113])) rfl (stp_load rfl (H.get 0 rfl) rfl) ?_
                    refine WO.step (v := (.int .i64 y4.1)) rfl rfl ?_
                    refine WO.step (v := (.int .i64 y4.2.1)) rfl rfl ?_
                    refine WO.step (v := (.int .i64 (ad .i64 y4.1 y4.2.1))) rfl rfl ?_
                    refine WO.store 1 rfl H rfl rfl rfl rfl rfl rfl rfl (Nat.le_of_ble_eq_true rfl) rfl (own_e hi1) ?_
                    intro S H
                    replace H : Hp [] [] _ [(i17, [(.int .u8 y112b.2.Tag), (.str y112b.2.Body), v113]), (i1, [(.int .u8 y112b.2.Tag), (.str y112b.2.Body), v113])] [(v113, 3)] := H
                    refine WO.step (v := (.int .i64 (ad .i64 y4.1 y4.2.1))) rfl rfl ?_
                    refine WO.step (v := (.int .i64 0)) rfl rfl ?_
                    refine WO.step (v := (.int .i64 0)) rfl rfl ?_
                    refine WO.nil ?_
                    refine WC.ret ?_
                    obtain rfl := Option.some.inj h
                    refine KB.ret (vs := [(.agg [(.int .u8 y112b.2.Tag), (.str y112b.2.Body), v113]), (.int .i64 (ad .i64 y4.1 y4.2.1)), (.int .i64 0), (.int .i64 0)]) (res_cell rfl (H.get 1 rfl) rfl (res_tmp rfl (res_tmp rfl (res_tmp rfl res_nil)))) ?_
                    exact (by simp only [st_tup, List.map_cons, List.map_nil, tupled, st2_agg, st1_int, st1_str, hv113.strip1, e_Api_Element_eq, st2_int])
-- 12 prefect/prefectref1.Read
/-- prefect/prefectref1.Read -/
def F12 (k : Nat) (a0 : Str) : Option (Api_Element × Int × Int × Int) :=
  Option.bind (F23 k a0 0 (Str.len a0) 1) fun y2 =>
  some (y2.1, y2.2.1, y2.2.2.1, y2.2.2.2)
theorem s12 : ∀ k : Nat, ∀ {a0 : Str} {r : Api_Element × Int × Int × Int}, F12 k a0 = some r → ∀ {vs : List PV}, vs.map PV.strip = [(.str a0)] → ∀ S : List SObj, evw env 12 vs S = some ((.tup [(.agg [(.int .u8 r.1.Tag), (.str r.1.Body), (encSl e_Api_Element r.1.Kids)]), (.int .i64 r.2.1), (.int .i64 r.2.2.1), (.int .i64 r.2.2.2)]), S, false) := by
  intro k a0 r h vs ha S
  unfold F12 at h
  refine evw_pureW (pf := fn12) rfl rfl ha (Nat.le_of_ble_eq_true rfl) rfl (by simp [PV.clean, cleanL, clean_encSl clean_Api_Element]) ?_
  refine WB.of (pf := fn12) rfl ?_
  have H := Hp.start []
  refine WC.seqR ?_
  refine WO.alloc' (ti := ty25) rfl rfl rfl rfl H ?_
  intro i1 S hi1 H
  refine WO.step (v := (.int .i64 0)) rfl rfl ?_
  refine WO.step (v := (.int .i64 0)) rfl rfl ?_
  refine WO.step (v := (.int .i64 0)) rfl rfl ?_
  refine WO.nil ?_
  refine WC.seqR ?_
  refine WO.step (v := (.str a0)) rfl rfl ?_
  refine WO.step (v := (.str a0)) rfl rfl ?_
  refine WO.step (v := (.int .i64 (Str.len a0))) rfl rfl ?_
  obtain ⟨y2, hy2, h⟩ := bindS h
  refine WO.step (v := (.tup [(.agg [(.int .u8 y2.1.Tag), (.str y2.1.Body), (encSl e_Api_Element y2.1.Kids)]), (.int .i64 y2.2.1), (.int .i64 y2.2.2.1), (.int .i64 y2.2.2.2)])) rfl (stp_call (vs := [(.str a0), (.int .i64 0), (.int .i64 (Str.len a0)), (.int .i64 1)]) rfl rfl (s23 _ hy2 rfl _)) ?_
  refine WO.step (v := (.agg [(.int .u8 y2.1.Tag), (.str y2.1.Body), (encSl e_Api_Element y2.1.Kids)])) rfl rfl ?_
  refine WO.step (v := (.int .i64 y2.2.1)) rfl rfl ?_
  refine WO.step (v := (.int .i64 y2.2.2.1)) rfl rfl ?_
  refine WO.step (v := (.int .i64 y2.2.2.2)) rfl rfl ?_
  refine WO.store 0 rfl H rfl rfl rfl rfl rfl rfl rfl (Nat.le_of_ble_eq_true rfl) rfl (own_e hi1) ?_
  intro S H
  replace H : Hp [] [] _ [(i1, [(.int .u8 y2.1.Tag), (.str y2.1.Body), (encSl e_Api_Element y2.1.Kids)])] [] := H
  refine WO.step (v := (.int .i64 y2.2.1)) rfl rfl ?_
  refine WO.step (v := (.int .i64 y2.2.2.1)) rfl rfl ?_
  refine WO.step (v := (.int .i64 y2.2.2.2)) rfl rfl ?_
  refine WO.nil ?_
  refine WC.ret ?_
  obtain rfl := Option.some.inj h
  refine KB.ret (vs := [(.agg [(.int .u8 y2.1.Tag), (.str y2.1.Body), (encSl e_Api_Element y2.1.Kids)]), (.int .i64 y2.2.1), (.int .i64 y2.2.2.1), (.int .i64 y2.2.2.2)]) (res_cell rfl (H.get 0 rfl) rfl (res_tmp rfl (res_tmp rfl (res_tmp rfl res_nil)))) ?_
  exact (by simp only [st_tup, List.map_cons, List.map_nil, tupled, st2_agg, st1_int, st1_str, strip1_enc, e_Api_Element_eq, st2_int])
-- 15 prefect/prefectref1.Same
def F15_L0 (rc0 : Api_Element → Api_Element → Option Bool) (k : Nat) (a36 : Api_Element) (a37 : Api_Element) : Nat → Int → Option (Out Bool Int)
  | 0, _ => none
  | n + 1, x35 =>
    if decide (x35 < (Sl.len a37.Kids)) then
    Option.bind (Sl.at? a37.Kids x35) fun y44 =>
    Option.bind (Sl.at? a36.Kids x35) fun y45 =>
    Option.bind (rc0 y44 y45) fun y46 =>
    if !y46 then
    some (Out.ret false)
    else
    F15_L0 rc0 k a36 a37 n (ad .i64 x35 1)
    else
    some (Out.brk x35)
/-- prefect/prefectref1.Same -/
def F15 : Nat → Api_Element → Api_Element → Option Bool
  | 0, _, _ => none
  | k + 1, a0, a1 =>
    if ((a0.Tag != a1.Tag) || (!(a0.Body == a1.Body))) || ((Sl.len a0.Kids) != (Sl.len a1.Kids)) then
    some false
    else
    Option.bind (F15_L0 (F15 k) k a1 a0 k 0) fun y50 =>
    match y50 with
    | .ret y50r => some y50r
    | .brk y50b =>
    some true
theorem l15_L0 {rc0 : Api_Element → Api_Element → Option Bool} (hrc0 : ∀ {a0 : Api_Element} {a1 : Api_Element} {r : Bool}, rc0 a0 a1 = some r → ∀ {vs : List PV}, vs.map PV.strip = [(.agg [(.int .u8 a0.Tag), (.str a0.Body), (encSl e_Api_Element a0.Kids)]), (.agg [(.int .u8 a1.Tag), (.str a1.Body), (encSl e_Api_Element a1.Kids)])] → ∀ S : List SObj, evw env 15 vs S = some ((.bool r), S, false)) {k : Nat} {a36 : Api_Element} {a37 : Api_Element} {S0 : List SObj} {R : List Nat} {K : KX} {i2 : Nat} {i1 : Nat} (hi2 : S0.length ≤ i2) (hi1 : S0.length ≤ i1)  {o : Out Bool Int}
    (hret : ∀ r : Bool, o = .ret r → ∀ {σ' : Nat → PV} {S' : List SObj}, Known [(4, (.bool r))] σ' → Hp S0 R S' [] [] → K .ret σ' S' false)
    (hbrk : ∀ y : Int, o = .brk y → ∀ {σ' : Nat → PV} {S' : List SObj}, Known [(5, (.int .i64 y))] σ' → Hp S0 R S' [(i2, [(.int .u8 a36.Tag), (.str a36.Body), (encSl e_Api_Element a36.Kids)]), (i1, [(.int .u8 a37.Tag), (.str a37.Body), (encSl e_Api_Element a37.Kids)])] [] → K (.exit 0) σ' S' false) :
    ∀ {n : Nat} {x35 : Int}, F15_L0 rc0 k a36 a37 n x35 = some o → ∀ {σ : Nat → PV} {S : List SObj}, Known [(2, (.ptr i1 0)), (3, (.ptr i2 0)), (5, (.int .i64 x35))] σ → Hp S0 R S [(i2, [(.int .u8 a36.Tag), (.str a36.Body), (encSl e_Api_Element a36.Kids)]), (i1, [(.int .u8 a37.Tag), (.str a37.Body), (encSl e_Api_Element a37.Kids)])] [] → WC env ⟨46, S0.length⟩ (.loop pc15L0) σ S false K := by
  intro n
  induction n with
  | zero => intro _ h; cases h
  | succ n ih =>
    intro x35 h σ S  hk H
    rw [F15_L0] at h
    refine WC.loop ?_
    refine WC.of_known hk ?_
    refine WC.seq ?_
    refine WC.seqR ?_
    refine WO.step (v := (.int .i64 x35)) rfl rfl ?_
    refine WO.step (v := (.ptr i1 2)) rfl rfl ?_
    refine WO.step (v := (encSl e_Api_Element a37.Kids)) rfl (stp_load rfl (H.get 1 rfl) rfl) ?_
    refine WO.step (v := (.int .i64 (Sl.len a37.Kids))) rfl (stp_len rfl (isSl_enc _ _) rfl) ?_
    refine WO.step (v := (.bool (decide (x35 < (Sl.len a37.Kids))))) rfl rfl ?_
    refine WO.nil ?_
    rcases iteS h with ⟨hc49, h⟩ | ⟨hc49, h⟩
    · refine WC.condT rfl hc49 ?_
      refine WC.skip ?_
      refine KX.seq_n ?_
      refine WC.seq ?_
      refine WC.block ?_
      refine WC.seq ?_
      refine WC.draw ?_
      refine WH.step (v := (.ptr i1 2)) rfl rfl rfl rfl ?_
      refine WH.step (v := (encSl e_Api_Element a37.Kids)) rfl (stp_load rfl (H.get 1 rfl) rfl) rfl rfl ?_
      refine WH.step (v := (.int .i64 x35)) rfl rfl rfl rfl ?_
      obtain ⟨y44, hy44, h⟩ := bindS h
      refine WH.step (v := (.iptr [(.int .u8 y44.Tag), (.str y44.Body), (encSl e_Api_Element y44.Kids)] 0)) rfl (stp_idxAddr rfl (isSl_enc _ _) rfl rfl rfl hy44 (e_Api_Element_cells _) rfl) rfl rfl ?_
      refine WH.step (v := (.agg [(.int .u8 y44.Tag), (.str y44.Body), (encSl e_Api_Element y44.Kids)])) rfl rfl rfl rfl ?_
      refine WH.step (v := (.ptr i2 2)) rfl rfl rfl rfl ?_
      refine WH.step (v := (encSl e_Api_Element a36.Kids)) rfl (stp_load rfl (H.get 0 rfl) rfl) rfl rfl ?_
      refine WH.step (v := (.int .i64 x35)) rfl rfl rfl rfl ?_
      obtain ⟨y45, hy45, h⟩ := bindS h
      refine WH.step (v := (.iptr [(.int .u8 y45.Tag), (.str y45.Body), (encSl e_Api_Element y45.Kids)] 0)) rfl (stp_idxAddr rfl (isSl_enc _ _) rfl rfl rfl hy45 (e_Api_Element_cells _) rfl) rfl rfl ?_
      refine WH.step (v := (.agg [(.int .u8 y45.Tag), (.str y45.Body), (encSl e_Api_Element y45.Kids)])) rfl rfl rfl rfl ?_
      refine WH.nil ?_
      obtain ⟨y46, hy46, h⟩ := bindS h
      refine WO.step (v := (.bool y46)) rfl (stp_call (vs := [(.agg [(.int .u8 y44.Tag), (.str y44.Body), (encSl e_Api_Element y44.Kids)]), (.agg [(.int .u8 y45.Tag), (.str y45.Body), (encSl e_Api_Element y45.Kids)])]) rfl rfl (hrc0 hy46 (by simp only [st_agg, List.map_cons, List.map_nil, st1_int, st1_str, strip1_enc, e_Api_Element_eq, tupled]) _)) ?_
      refine WO.step (v := (.bool (!y46))) rfl rfl ?_
      refine WO.nil ?_
      refine KX.seq_n ?_
      rcases iteS h with ⟨hc48, h⟩ | ⟨hc48, h⟩
      · refine WC.condT rfl hc48 ?_
        refine WC.seqR ?_
        refine WO.step (v := (.bool false)) rfl rfl ?_
        refine WO.nil ?_
        refine WC.ret ?_
        refine KX.block_r ?_
        refine KX.seq_r ?_
        refine KX.seq_r ?_
        obtain rfl := Option.some.inj h
        exact hret _ rfl (known_cons rfl known_nil) (H.sub (.cons _ (.cons _ .slnil)) .slnil)
      · refine WC.condF rfl hc48 ?_
        refine WC.skip ?_
        refine KX.block_n ?_
        refine KX.seq_n ?_
        refine WC.region ?_
        refine WO.step (v := (.int .i64 x35)) rfl rfl ?_
        refine WO.step (v := (.int .i64 (ad .i64 x35 1))) rfl rfl ?_
        refine WO.step (v := (.int .i64 (ad .i64 x35 1))) rfl rfl ?_
        refine WO.nil ?_
        refine KX.seq_n ?_
        exact ih h  (known_cons rfl (known_cons rfl (known_cons rfl known_nil))) (H.sub (.cons_cons _ (.cons_cons _ .slnil)) .slnil)
    · refine WC.condF rfl hc49 ?_
      refine WC.exit ?_
      refine KX.seq_x ?_
      refine KX.seq_x ?_
      obtain rfl := Option.some.inj h
      exact hbrk _ rfl  (known_cons rfl known_nil) (H.sub (.cons_cons _ (.cons_cons _ .slnil)) .slnil)
theorem s15 : ∀ k : Nat, ∀ {a0 : Api_Element} {a1 : Api_Element} {r : Bool}, F15 k a0 a1 = some r → ∀ {vs : List PV}, vs.map PV.strip = [(.agg [(.int .u8 a0.Tag), (.str a0.Body), (encSl e_Api_Element a0.Kids)]), (.agg [(.int .u8 a1.Tag), (.str a1.Body), (encSl e_Api_Element a1.Kids)])] → ∀ S : List SObj, evw env 15 vs S = some ((.bool r), S, false) := by
  intro k
  induction k with
  | zero => intro _ _ r h; cases h
  | succ k ih =>
    intro a0 a1 r h vs ha S
    rw [F15] at h
    refine evw_pureW (pf := fn15) rfl rfl ha (Nat.le_of_ble_eq_true rfl) (by simp [PV.clean, cleanL, clean_encSl clean_Api_Element]) rfl ?_
    refine WB.of (pf := fn15) rfl ?_
    have H := Hp.start []
    refine WC.seqR ?_
    refine WO.box' rfl rfl rfl rfl H ?_
    intro i1 S hi1 H
    refine WO.box' rfl rfl rfl rfl H ?_
    intro i2 S hi2 H
    refine WO.step (v := (.bool false)) rfl rfl ?_
    refine WO.nil ?_
    refine WC.seq ?_
    refine WC.seqR ?_
    refine WO.step (v := (.ptr i1 0)) rfl rfl ?_
    refine WO.step (v := (.int .u8 a0.Tag)) rfl (stp_load rfl (H.get 1 rfl) rfl) ?_
    refine WO.step (v := (.ptr i2 0)) rfl rfl ?_
    refine WO.step (v := (.int .u8 a1.Tag)) rfl (stp_load rfl (H.get 0 rfl) rfl) ?_
    refine WO.step (v := (.bool (a0.Tag != a1.Tag))) rfl rfl ?_
    refine WO.step (v := (.bool (a0.Tag != a1.Tag))) rfl rfl ?_
    refine WO.split 6 (fun σ' S' e' => Known ([(2, (.ptr i1 0)), (3, (.ptr i2 0)), (17, (.bool ((a0.Tag != a1.Tag) || (!(a0.Body == a1.Body)))))]) σ' ∧ Hp [] [] S' [(i2, [(.int .u8 a1.Tag), (.str a1.Body), (encSl e_Api_Element a1.Kids)]), (i1, [(.int .u8 a0.Tag), (.str a0.Body), (encSl e_Api_Element a0.Kids)])] [] ∧ e' = false) ?_ ?_
    · cases hc3 : (a0.Tag != a1.Tag)
      · skip
        refine WO.go0 rfl rfl ?_
        refine WO.step (v := (.ptr i1 1)) rfl rfl ?_
        refine WO.go0 rfl rfl ?_
        refine WO.step (v := (.str a0.Body)) rfl (stp_load rfl (H.get 1 rfl) rfl) ?_
        refine WO.go0 rfl rfl ?_
        refine WO.step (v := (.ptr i2 1)) rfl rfl ?_
        refine WO.go0 rfl rfl ?_
        refine WO.step (v := (.str a1.Body)) rfl (stp_load rfl (H.get 0 rfl) rfl) ?_
        refine WO.go0 rfl rfl ?_
        refine WO.step (v := (.bool (!(a0.Body == a1.Body)))) rfl rfl ?_
        refine WO.step (v := (.bool (!(a0.Body == a1.Body)))) rfl rfl ?_
        refine WO.nil ?_
        exact ⟨(known_cons rfl (known_cons rfl (known_cons rfl known_nil))), H, rfl⟩
      · skip
        refine WO.by rfl rfl rfl ?_
        refine WO.by rfl rfl rfl ?_
        refine WO.by rfl rfl rfl ?_
        refine WO.by rfl rfl rfl ?_
        refine WO.by rfl rfl rfl ?_
        refine WO.step (v := (.bool true)) rfl rfl ?_
        refine WO.nil ?_
        exact ⟨(known_cons rfl (known_cons rfl (known_cons rfl known_nil))), H, rfl⟩
    · rintro σ S e ⟨hk, H, rfl⟩
      refine WO.of_known hk ?_
      refine WO.step (v := (.bool ((a0.Tag != a1.Tag) || (!(a0.Body == a1.Body))))) rfl rfl ?_
      refine WO.split 8 (fun σ' S' e' => Known ([(2, (.ptr i1 0)), (3, (.ptr i2 0)), (26, (.bool (((a0.Tag != a1.Tag) || (!(a0.Body == a1.Body))) || ((Sl.len a0.Kids) != (Sl.len a1.Kids)))))]) σ' ∧ Hp [] [] S' [(i2, [(.int .u8 a1.Tag), (.str a1.Body), (encSl e_Api_Element a1.Kids)]), (i1, [(.int .u8 a0.Tag), (.str a0.Body), (encSl e_Api_Element a0.Kids)])] [] ∧ e' = false) ?_ ?_
      · cases hc4 : ((a0.Tag != a1.Tag) || (!(a0.Body == a1.Body)))
        · skip
          refine WO.go0 rfl rfl ?_
          refine WO.step (v := (.ptr i1 2)) rfl rfl ?_
          refine WO.go0 rfl rfl ?_
          refine WO.step (v := (encSl e_Api_Element a0.Kids)) rfl (stp_load rfl (H.get 1 rfl) rfl) ?_
          refine WO.go0 rfl rfl ?_
          refine WO.step (v := (.int .i64 (Sl.len a0.Kids))) rfl (stp_len rfl (isSl_enc _ _) rfl) ?_
          refine WO.go0 rfl rfl ?_
          refine WO.step (v := (.ptr i2 2)) rfl rfl ?_
          refine WO.go0 rfl rfl ?_
          refine WO.step (v := (encSl e_Api_Element a1.Kids)) rfl (stp_load rfl (H.get 0 rfl) rfl) ?_
          refine WO.go0 rfl rfl ?_
          refine WO.step (v := (.int .i64 (Sl.len a1.Kids))) rfl (stp_len rfl (isSl_enc _ _) rfl) ?_
          refine WO.go0 rfl rfl ?_
          refine WO.step (v := (.bool ((Sl.len a0.Kids) != (Sl.len a1.Kids)))) rfl rfl ?_
          refine WO.step (v := (.bool ((Sl.len a0.Kids) != (Sl.len a1.Kids)))) rfl rfl ?_
          refine WO.nil ?_
          exact ⟨(known_cons rfl (known_cons rfl (known_cons rfl known_nil))), H, rfl⟩
        · skip
          refine WO.by rfl rfl rfl ?_
          refine WO.by rfl rfl rfl ?_
          refine WO.by rfl rfl rfl ?_
          refine WO.by rfl rfl rfl ?_
          refine WO.by rfl rfl rfl ?_
          refine WO.by rfl rfl rfl ?_
          refine WO.by rfl rfl rfl ?_
          refine WO.step (v := (.bool true)) rfl rfl ?_
          refine WO.nil ?_
          exact ⟨(known_cons rfl (known_cons rfl (known_cons rfl known_nil))), H, rfl⟩
      · rintro σ S e ⟨hk, H, rfl⟩
        refine WO.of_known hk ?_
        refine WO.nil ?_
        rcases iteS h with ⟨hc51, h⟩ | ⟨hc51, h⟩
        · refine WC.condT rfl hc51 ?_
          refine WC.seqR ?_
          refine WO.step (v := (.bool false)) rfl rfl ?_
          refine WO.nil ?_
          refine WC.ret ?_
          refine KX.seq_r ?_
          obtain rfl := Option.some.inj h
          refine KB.ret (vs := [(.bool false)]) (res_tmp rfl res_nil) ?_
          exact rfl
        · refine WC.condF rfl hc51 ?_
          refine WC.skip ?_
          refine KX.seq_n ?_
          refine WC.seq ?_
          refine WC.seqR ?_
          refine WO.step (v := (.int .i64 0)) rfl rfl ?_
          refine WO.nil ?_
          obtain ⟨y50, hy50, hOy50⟩ := bindS h
          refine WC.block ?_
          refine l15_L0 ih hi2 hi1 ?_ ?_ hy50  (known_cons rfl (known_cons rfl (known_cons rfl known_nil))) (H.sub (.cons_cons _ (.cons_cons _ .slnil)) .slnil)
          · intro y50r he σ S  hk H; subst he; replace h := hOy50; dsimp only at h
            refine KX.of_known hk ?_
            refine KX.block_r ?_
            refine KX.seq_r ?_
            obtain rfl := Option.some.inj h
            refine KB.ret (vs := [(.bool y50r)]) (res_tmp rfl res_nil) ?_
            exact rfl
          · intro y50b he σ S  hk H; subst he; replace h := hOy50; dsimp only at h
            refine KX.of_known hk ?_
            refine KX.block_x ?_
            refine KX.seq_n ?_
            refine WC.seqR ?_
            refine WO.step (v := (.bool true)) rfl rfl ?_
            refine WO.nil ?_
            refine WC.ret ?_
            obtain rfl := Option.some.inj h
            refine KB.ret (vs := [(.bool true)]) (res_tmp rfl res_nil) ?_
            exact rfl
-- 3 prefect/prefectlaw1.BerReads
/-- prefect/prefectlaw1.BerReads -/
def F3 (k : Nat) (a0 : Str) : Option Bool :=
  Option.bind (F10 k ) fun y1 =>
  if !y1 then
  some false
  else
  if decide ((Str.len a0) > 5000) then
  some true
  else
  Option.bind (F11 k a0) fun y4 =>
  Option.bind (F12 k a0) fun y6 =>
  Option.bind (F13 k a0) fun y8 =>
  Option.bind (F14 k a0) fun y9 =>
  Option.bind (F15 k y4.1 y6.1) fun y10 =>
  some ((((((y10 && (y4.2.1 == y6.2.1)) && (y4.2.2.1 == y6.2.2.1)) && (y4.2.2.2 == y6.2.2.2)) && (y8.1 == y9.1)) && (y8.2.1 == y9.2.1)) && (y8.2.2 == y9.2.2))
theorem s3 : ∀ k : Nat, ∀ {a0 : Str} {r : Bool}, F3 k a0 = some r → ∀ {vs : List PV}, vs.map PV.strip = [(.str a0)] → ∀ S : List SObj, evw env 3 vs S = some ((.bool r), S, false) := by
  intro k a0 r h vs ha S
  unfold F3 at h
  refine evw_pureW (pf := fn3) rfl rfl ha (Nat.le_of_ble_eq_true rfl) rfl rfl ?_
  refine WB.of (pf := fn3) rfl ?_
  have H := Hp.start []
  refine WC.seqR ?_
  refine WO.step (v := (.bool false)) rfl rfl ?_
  refine WO.nil ?_
  refine WC.seq ?_
  refine WC.seqR ?_
  obtain ⟨y1, hy1, h⟩ := bindS h
  refine WO.step (v := (.bool y1)) rfl (stp_call (vs := []) rfl rfl (s10 _ hy1 rfl _)) ?_
  refine WO.step (v := (.bool (!y1))) rfl rfl ?_
  refine WO.nil ?_
  rcases iteS h with ⟨hc18, h⟩ | ⟨hc18, h⟩
  · refine WC.condT rfl hc18 ?_
    refine WC.seqR ?_
    refine WO.step (v := (.bool false)) rfl rfl ?_
    refine WO.nil ?_
    refine WC.ret ?_
    refine KX.seq_r ?_
    obtain rfl := Option.some.inj h
    refine KB.ret (vs := [(.bool false)]) (res_tmp rfl res_nil) ?_
    exact rfl
  · refine WC.condF rfl hc18 ?_
    refine WC.skip ?_
    refine KX.seq_n ?_
    refine WC.seq ?_
    refine WC.seqR ?_
    refine WO.step (v := (.str a0)) rfl rfl ?_
    refine WO.step (v := (.int .i64 (Str.len a0))) rfl rfl ?_
    refine WO.step (v := (.bool (decide ((Str.len a0) > 5000)))) rfl rfl ?_
    refine WO.nil ?_
    rcases iteS h with ⟨hc17, h⟩ | ⟨hc17, h⟩
    · refine WC.condT rfl hc17 ?_
      refine WC.seqR ?_
      refine WO.step (v := (.bool true)) rfl rfl ?_
      refine WO.nil ?_
      refine WC.ret ?_
      refine KX.seq_r ?_
      obtain rfl := Option.some.inj h
      refine KB.ret (vs := [(.bool true)]) (res_tmp rfl res_nil) ?_
      exact rfl
    · refine WC.condF rfl hc17 ?_
      refine WC.skip ?_
      refine KX.seq_n ?_
      refine WC.seqR ?_
      refine WO.step (v := (.str a0)) rfl rfl ?_
      obtain ⟨y4, hy4, h⟩ := bindS h
      refine WO.step (v := (.tup [(.agg [(.int .u8 y4.1.Tag), (.str y4.1.Body), (encSl e_Api_Element y4.1.Kids)]), (.int .i64 y4.2.1), (.int .i64 y4.2.2.1), (.int .i64 y4.2.2.2)])) rfl (stp_call (vs := [(.str a0)]) rfl rfl (s11 _ hy4 rfl _)) ?_
      refine WO.step (v := (.tup [(.agg [(.int .u8 y4.1.Tag), (.str y4.1.Body), (encSl e_Api_Element y4.1.Kids)]), (.int .i64 y4.2.1), (.int .i64 y4.2.2.1), (.int .i64 y4.2.2.2)])) rfl rfl ?_
      refine WO.step (v := (.agg [(.int .u8 y4.1.Tag), (.str y4.1.Body), (encSl e_Api_Element y4.1.Kids)])) rfl rfl ?_
      refine WO.step (v := (.int .i64 y4.2.1)) rfl rfl ?_
      refine WO.step (v := (.int .i64 y4.2.2.1)) rfl rfl ?_
      refine WO.step (v := (.int .i64 y4.2.2.2)) rfl rfl ?_
      refine WO.alloc' (ti := ty25) rfl rfl rfl rfl H ?_
      intro i5 S hi5 H
      refine WO.store 0 rfl H rfl rfl rfl rfl rfl rfl rfl (Nat.le_of_ble_eq_true rfl) rfl (own_e hi5) ?_
      intro S H
      replace H : Hp [] [] _ [(i5, [(.int .u8 y4.1.Tag), (.str y4.1.Body), (encSl e_Api_Element y4.1.Kids)])] [] := H
      refine WO.step (v := (.int .i64 y4.2.1)) rfl rfl ?_
      refine WO.step (v := (.int .i64 y4.2.2.1)) rfl rfl ?_
      refine WO.step (v := (.int .i64 y4.2.2.2)) rfl rfl ?_
      refine WO.nil ?_
      refine WC.seqR ?_
      refine WO.step (v := (.str a0)) rfl rfl ?_
      obtain ⟨y6, hy6, h⟩ := bindS h
      refine WO.step (v := (.tup [(.agg [(.int .u8 y6.1.Tag), (.str y6.1.Body), (encSl e_Api_Element y6.1.Kids)]), (.int .i64 y6.2.1), (.int .i64 y6.2.2.1), (.int .i64 y6.2.2.2)])) rfl (stp_call (vs := [(.str a0)]) rfl rfl (s12 _ hy6 rfl _)) ?_
      refine WO.step (v := (.tup [(.agg [(.int .u8 y6.1.Tag), (.str y6.1.Body), (encSl e_Api_Element y6.1.Kids)]), (.int .i64 y6.2.1), (.int .i64 y6.2.2.1), (.int .i64 y6.2.2.2)])) rfl rfl ?_
      refine WO.step (v := (.agg [(.int .u8 y6.1.Tag), (.str y6.1.Body), (encSl e_Api_Element y6.1.Kids)])) rfl rfl ?_
      refine WO.step (v := (.int .i64 y6.2.1)) rfl rfl ?_
      refine WO.step (v := (.int .i64 y6.2.2.1)) rfl rfl ?_
      refine WO.step (v := (.int .i64 y6.2.2.2)) rfl rfl ?_
      refine WO.alloc' (ti := ty25) rfl rfl rfl rfl H ?_
      intro i7 S hi7 H
      refine WO.store 0 rfl H rfl rfl rfl rfl rfl rfl rfl (Nat.le_of_ble_eq_true rfl) rfl (own_e hi7) ?_
      intro S H
      replace H : Hp [] [] _ [(i7, [(.int .u8 y6.1.Tag), (.str y6.1.Body), (encSl e_Api_Element y6.1.Kids)]), (i5, [(.int .u8 y4.1.Tag), (.str y4.1.Body), (encSl e_Api_Element y4.1.Kids)])] [] := H
      refine WO.step (v := (.int .i64 y6.2.1)) rfl rfl ?_
      refine WO.step (v := (.int .i64 y6.2.2.1)) rfl rfl ?_
      refine WO.step (v := (.int .i64 y6.2.2.2)) rfl rfl ?_
      refine WO.nil ?_
      refine WC.seqR ?_
      refine WO.step (v := (.str a0)) rfl rfl ?_
      obtain ⟨y8, hy8, h⟩ := bindS h
      refine WO.step (v := (.tup [(.int .i64 y8.1), (.int .i64 y8.2.1), (.int .i64 y8.2.2)])) rfl (stp_call (vs := [(.str a0)]) rfl rfl (s13 _ hy8 rfl _)) ?_
      refine WO.step (v := (.tup [(.int .i64 y8.1), (.int .i64 y8.2.1), (.int .i64 y8.2.2)])) rfl rfl ?_
      refine WO.step (v := (.int .i64 y8.1)) rfl rfl ?_
      refine WO.step (v := (.int .i64 y8.2.1)) rfl rfl ?_
      refine WO.step (v := (.int .i64 y8.2.2)) rfl rfl ?_
      refine WO.step (v := (.int .i64 y8.1)) rfl rfl ?_
      refine WO.step (v := (.int .i64 y8.2.1)) rfl rfl ?_
      refine WO.step (v := (.int .i64 y8.2.2)) rfl rfl ?_
      refine WO.nil ?_
      refine WC.seqR ?_
      refine WO.step (v := (.str a0)) rfl rfl ?_
      obtain ⟨y9, hy9, h⟩ := bindS h
      refine WO.step (v := (.tup [(.int .i64 y9.1), (.int .i64 y9.2.1), (.int .i64 y9.2.2)])) rfl (stp_call (vs := [(.str a0)]) rfl rfl (s14 _ hy9 rfl _)) ?_
      refine WO.step (v := (.tup [(.int .i64 y9.1), (.int .i64 y9.2.1), (.int .i64 y9.2.2)])) rfl rfl ?_
      refine WO.step (v := (.int .i64 y9.1)) rfl rfl ?_
      refine WO.step (v := (.int .i64 y9.2.1)) rfl rfl ?_
      refine WO.step (v := (.int .i64 y9.2.2)) rfl rfl ?_
      refine WO.step (v := (.int .i64 y9.1)) rfl rfl ?_
      refine WO.step (v := (.int .i64 y9.2.1)) rfl rfl ?_
      refine WO.step (v := (.int .i64 y9.2.2)) rfl rfl ?_
      refine WO.nil ?_
      refine WC.seqR ?_
      refine WO.step (v := (.agg [(.int .u8 y4.1.Tag), (.str y4.1.Body), (encSl e_Api_Element y4.1.Kids)])) rfl (stp_load rfl (H.get 1 rfl) rfl) ?_
      refine WO.step (v := (.agg [(.int .u8 y6.1.Tag), (.str y6.1.Body), (encSl e_Api_Element y6.1.Kids)])) rfl (stp_load rfl (H.get 0 rfl) rfl) ?_
      obtain ⟨y10, hy10, h⟩ := bindS h
      refine WO.step (v := (.bool y10)) rfl (stp_call (vs := [(.agg [(.int .u8 y4.1.Tag), (.str y4.1.Body), (encSl e_Api_Element y4.1.Kids)]), (.agg [(.int .u8 y6.1.Tag), (.str y6.1.Body), (encSl e_Api_Element y6.1.Kids)])]) rfl rfl (s15 _ hy10 (by simp only [st_agg, List.map_cons, List.map_nil, st1_int, st1_str, strip1_enc, e_Api_Element_eq, tupled]) _)) ?_
      refine WO.step (v := (.bool y10)) rfl rfl ?_
      refine WO.split 4 (fun σ' S' e' => Known ([(5, (.int .i64 y4.2.2.1)), (6, (.int .i64 y4.2.2.2)), (9, (.int .i64 y6.2.2.1)), (10, (.int .i64 y6.2.2.2)), (11, (.int .i64 y8.1)), (12, (.int .i64 y8.2.1)), (13, (.int .i64 y8.2.2)), (14, (.int .i64 y9.1)), (15, (.int .i64 y9.2.1)), (16, (.int .i64 y9.2.2)), (55, (.bool (y10 && (y4.2.1 == y6.2.1))))]) σ' ∧ Hp [] [] S' [(i7, [(.int .u8 y6.1.Tag), (.str y6.1.Body), (encSl e_Api_Element y6.1.Kids)]), (i5, [(.int .u8 y4.1.Tag), (.str y4.1.Body), (encSl e_Api_Element y4.1.Kids)])] [] ∧ e' = false) ?_ ?_
      · cases hc11 : y10
        · skip
          refine WO.by rfl rfl rfl ?_
          refine WO.by rfl rfl rfl ?_
          refine WO.by rfl rfl rfl ?_
          refine WO.step (v := (.bool false)) rfl rfl ?_
          refine WO.nil ?_
          exact ⟨(known_cons rfl (known_cons rfl (known_cons rfl (known_cons rfl (known_cons rfl (known_cons rfl (known_cons rfl (known_cons rfl (known_cons rfl (known_cons rfl (known_cons rfl known_nil))))))))))), H, rfl⟩
        · skip
          refine WO.go0 rfl rfl ?_
          refine WO.step (v := (.int .i64 y4.2.1)) rfl rfl ?_
          refine WO.go0 rfl rfl ?_
          refine WO.step (v := (.int .i64 y6.2.1)) rfl rfl ?_
          refine WO.go0 rfl rfl ?_
          refine WO.step (v := (.bool (y4.2.1 == y6.2.1))) rfl rfl ?_
          refine WO.step (v := (.bool (y4.2.1 == y6.2.1))) rfl rfl ?_
          refine WO.nil ?_
          exact ⟨(known_cons rfl (known_cons rfl (known_cons rfl (known_cons rfl (known_cons rfl (known_cons rfl (known_cons rfl (known_cons rfl (known_cons rfl (known_cons rfl (known_cons rfl known_nil))))))))))), H, rfl⟩
      · rintro σ S e ⟨hk, H, rfl⟩
        refine WO.of_known hk ?_
        refine WO.step (v := (.bool (y10 && (y4.2.1 == y6.2.1)))) rfl rfl ?_
        refine WO.split 4 (fun σ' S' e' => Known ([(6, (.int .i64 y4.2.2.2)), (10, (.int .i64 y6.2.2.2)), (11, (.int .i64 y8.1)), (12, (.int .i64 y8.2.1)), (13, (.int .i64 y8.2.2)), (14, (.int .i64 y9.1)), (15, (.int .i64 y9.2.1)), (16, (.int .i64 y9.2.2)), (60, (.bool ((y10 && (y4.2.1 == y6.2.1)) && (y4.2.2.1 == y6.2.2.1))))]) σ' ∧ Hp [] [] S' [(i7, [(.int .u8 y6.1.Tag), (.str y6.1.Body), (encSl e_Api_Element y6.1.Kids)]), (i5, [(.int .u8 y4.1.Tag), (.str y4.1.Body), (encSl e_Api_Element y4.1.Kids)])] [] ∧ e' = false) ?_ ?_
        · cases hc12 : (y10 && (y4.2.1 == y6.2.1))
          · skip
            refine WO.by rfl rfl rfl ?_
            refine WO.by rfl rfl rfl ?_
            refine WO.by rfl rfl rfl ?_
            refine WO.step (v := (.bool false)) rfl rfl ?_
            refine WO.nil ?_
            exact ⟨(known_cons rfl (known_cons rfl (known_cons rfl (known_cons rfl (known_cons rfl (known_cons rfl (known_cons rfl (known_cons rfl (known_cons rfl known_nil))))))))), H, rfl⟩
          · skip
            refine WO.go0 rfl rfl ?_
            refine WO.step (v := (.int .i64 y4.2.2.1)) rfl rfl ?_
            refine WO.go0 rfl rfl ?_
            refine WO.step (v := (.int .i64 y6.2.2.1)) rfl rfl ?_
            refine WO.go0 rfl rfl ?_
            refine WO.step (v := (.bool (y4.2.2.1 == y6.2.2.1))) rfl rfl ?_
            refine WO.step (v := (.bool (y4.2.2.1 == y6.2.2.1))) rfl rfl ?_
            refine WO.nil ?_
            exact ⟨(known_cons rfl (known_cons rfl (known_cons rfl (known_cons rfl (known_cons rfl (known_cons rfl (known_cons rfl (known_cons rfl (known_cons rfl known_nil))))))))), H, rfl⟩
        · rintro σ S e ⟨hk, H, rfl⟩
          refine WO.of_known hk ?_
          refine WO.step (v := (.bool ((y10 && (y4.2.1 == y6.2.1)) && (y4.2.2.1 == y6.2.2.1)))) rfl rfl ?_
          refine WO.split 4 (fun σ' S' e' => Known ([(11, (.int .i64 y8.1)), (12, (.int .i64 y8.2.1)), (13, (.int .i64 y8.2.2)), (14, (.int .i64 y9.1)), (15, (.int .i64 y9.2.1)), (16, (.int .i64 y9.2.2)), (65, (.bool (((y10 && (y4.2.1 == y6.2.1)) && (y4.2.2.1 == y6.2.2.1)) && (y4.2.2.2 == y6.2.2.2))))]) σ' ∧ Hp [] [] S' [(i7, [(.int .u8 y6.1.Tag), (.str y6.1.Body), (encSl e_Api_Element y6.1.Kids)]), (i5, [(.int .u8 y4.1.Tag), (.str y4.1.Body), (encSl e_Api_Element y4.1.Kids)])] [] ∧ e' = false) ?_ ?_
          · cases hc13 : ((y10 && (y4.2.1 == y6.2.1)) && (y4.2.2.1 == y6.2.2.1))
            · skip
              refine WO.by rfl rfl rfl ?_
              refine WO.by rfl rfl rfl ?_
              refine WO.by rfl rfl rfl ?_
              refine WO.step (v := (.bool false)) rfl rfl ?_
              refine WO.nil ?_
              exact ⟨(known_cons rfl (known_cons rfl (known_cons rfl (known_cons rfl (known_cons rfl (known_cons rfl (known_cons rfl known_nil))))))), H, rfl⟩
            · skip
              refine WO.go0 rfl rfl ?_
              refine WO.step (v := (.int .i64 y4.2.2.2)) rfl rfl ?_
              refine WO.go0 rfl rfl ?_
              refine WO.step (v := (.int .i64 y6.2.2.2)) rfl rfl ?_
              refine WO.go0 rfl rfl ?_
              refine WO.step (v := (.bool (y4.2.2.2 == y6.2.2.2))) rfl rfl ?_
              refine WO.step (v := (.bool (y4.2.2.2 == y6.2.2.2))) rfl rfl ?_
              refine WO.nil ?_
              exact ⟨(known_cons rfl (known_cons rfl (known_cons rfl (known_cons rfl (known_cons rfl (known_cons rfl (known_cons rfl known_nil))))))), H, rfl⟩
          · rintro σ S e ⟨hk, H, rfl⟩
            refine WO.of_known hk ?_
            refine WO.step (v := (.bool (((y10 && (y4.2.1 == y6.2.1)) && (y4.2.2.1 == y6.2.2.1)) && (y4.2.2.2 == y6.2.2.2)))) rfl rfl ?_
            refine WO.split 4 (fun σ' S' e' => Known ([(12, (.int .i64 y8.2.1)), (13, (.int .i64 y8.2.2)), (15, (.int .i64 y9.2.1)), (16, (.int .i64 y9.2.2)), (70, (.bool ((((y10 && (y4.2.1 == y6.2.1)) && (y4.2.2.1 == y6.2.2.1)) && (y4.2.2.2 == y6.2.2.2)) && (y8.1 == y9.1))))]) σ' ∧ Hp [] [] S' [(i7, [(.int .u8 y6.1.Tag), (.str y6.1.Body), (encSl e_Api_Element y6.1.Kids)]), (i5, [(.int .u8 y4.1.Tag), (.str y4.1.Body), (encSl e_Api_Element y4.1.Kids)])] [] ∧ e' = false) ?_ ?_
            · cases hc14 : (((y10 && (y4.2.1 == y6.2.1)) && (y4.2.2.1 == y6.2.2.1)) && (y4.2.2.2 == y6.2.2.2))
              · skip
                refine WO.by rfl rfl rfl ?_
                refine WO.by rfl rfl rfl ?_
                refine WO.by rfl rfl rfl ?_
                refine WO.step (v := (.bool false)) rfl rfl ?_
                refine WO.nil ?_
                exact ⟨(known_cons rfl (known_cons rfl (known_cons rfl (known_cons rfl (known_cons rfl known_nil))))), H, rfl⟩
              · skip
                refine WO.go0 rfl rfl ?_
                refine WO.step (v := (.int .i64 y8.1)) rfl rfl ?_
                refine WO.go0 rfl rfl ?_
                refine WO.step (v := (.int .i64 y9.1)) rfl rfl ?_
                refine WO.go0 rfl rfl ?_
                refine WO.step (v := (.bool (y8.1 == y9.1))) rfl rfl ?_
                refine WO.step (v := (.bool (y8.1 == y9.1))) rfl rfl ?_
                refine WO.nil ?_
                exact ⟨(known_cons rfl (known_cons rfl (known_cons rfl (known_cons rfl (known_cons rfl known_nil))))), H, rfl⟩
            · rintro σ S e ⟨hk, H, rfl⟩
              refine WO.of_known hk ?_
              refine WO.step (v := (.bool ((((y10 && (y4.2.1 == y6.2.1)) && (y4.2.2.1 == y6.2.2.1)) && (y4.2.2.2 == y6.2.2.2)) && (y8.1 == y9.1)))) rfl rfl ?_
              refine WO.split 4 (fun σ' S' e' => Known ([(13, (.int .i64 y8.2.2)), (16, (.int .i64 y9.2.2)), (75, (.bool (((((y10 && (y4.2.1 == y6.2.1)) && (y4.2.2.1 == y6.2.2.1)) && (y4.2.2.2 == y6.2.2.2)) && (y8.1 == y9.1)) && (y8.2.1 == y9.2.1))))]) σ' ∧ Hp [] [] S' [(i7, [(.int .u8 y6.1.Tag), (.str y6.1.Body), (encSl e_Api_Element y6.1.Kids)]), (i5, [(.int .u8 y4.1.Tag), (.str y4.1.Body), (encSl e_Api_Element y4.1.Kids)])] [] ∧ e' = false) ?_ ?_
              · cases hc15 : ((((y10 && (y4.2.1 == y6.2.1)) && (y4.2.2.1 == y6.2.2.1)) && (y4.2.2.2 == y6.2.2.2)) && (y8.1 == y9.1))
                · skip
                  refine WO.by rfl rfl rfl ?_
                  refine WO.by rfl rfl rfl ?_
                  refine WO.by rfl rfl rfl ?_
                  refine WO.step (v := (.bool false)) rfl rfl ?_
                  refine WO.nil ?_
                  exact ⟨(known_cons rfl (known_cons rfl (known_cons rfl known_nil))), H, rfl⟩
                · skip
                  refine WO.go0 rfl rfl ?_
                  refine WO.step (v := (.int .i64 y8.2.1)) rfl rfl ?_
                  refine WO.go0 rfl rfl ?_
                  refine WO.step (v := (.int .i64 y9.2.1)) rfl rfl ?_
                  refine WO.go0 rfl rfl ?_
                  refine WO.step (v := (.bool (y8.2.1 == y9.2.1))) rfl rfl ?_
                  refine WO.step (v := (.bool (y8.2.1 == y9.2.1))) rfl rfl ?_
                  refine WO.nil ?_
                  exact ⟨(known_cons rfl (known_cons rfl (known_cons rfl known_nil))), H, rfl⟩
              · rintro σ S e ⟨hk, H, rfl⟩
                refine WO.of_known hk ?_
                refine WO.step (v := (.bool (((((y10 && (y4.2.1 == y6.2.1)) && (y4.2.2.1 == y6.2.2.1)) && (y4.2.2.2 == y6.2.2.2)) && (y8.1 == y9.1)) && (y8.2.1 == y9.2.1)))) rfl rfl ?_
                refine WO.split 4 (fun σ' S' e' => Known ([(80, (.bool ((((((y10 && (y4.2.1 == y6.2.1)) && (y4.2.2.1 == y6.2.2.1)) && (y4.2.2.2 == y6.2.2.2)) && (y8.1 == y9.1)) && (y8.2.1 == y9.2.1)) && (y8.2.2 == y9.2.2))))]) σ' ∧ Hp [] [] S' [(i7, [(.int .u8 y6.1.Tag), (.str y6.1.Body), (encSl e_Api_Element y6.1.Kids)]), (i5, [(.int .u8 y4.1.Tag), (.str y4.1.Body), (encSl e_Api_Element y4.1.Kids)])] [] ∧ e' = false) ?_ ?_
                · cases hc16 : (((((y10 && (y4.2.1 == y6.2.1)) && (y4.2.2.1 == y6.2.2.1)) && (y4.2.2.2 == y6.2.2.2)) && (y8.1 == y9.1)) && (y8.2.1 == y9.2.1))
                  · skip
                    refine WO.by rfl rfl rfl ?_
                    refine WO.by rfl rfl rfl ?_
                    refine WO.by rfl rfl rfl ?_
                    refine WO.step (v := (.bool false)) rfl rfl ?_
                    refine WO.nil ?_
                    exact ⟨(known_cons rfl known_nil), H, rfl⟩
                  · skip
                    refine WO.go0 rfl rfl ?_
                    refine WO.step (v := (.int .i64 y8.2.2)) rfl rfl ?_
                    refine WO.go0 rfl rfl ?_
                    refine WO.step (v := (.int .i64 y9.2.2)) rfl rfl ?_
                    refine WO.go0 rfl rfl ?_
                    refine WO.step (v := (.bool (y8.2.2 == y9.2.2))) rfl rfl ?_
                    refine WO.step (v := (.bool (y8.2.2 == y9.2.2))) rfl rfl ?_
                    refine WO.nil ?_
                    exact ⟨(known_cons rfl known_nil), H, rfl⟩
                · rintro σ S e ⟨hk, H, rfl⟩
                  refine WO.of_known hk ?_
                  refine WO.step (v := (.bool ((((((y10 && (y4.2.1 == y6.2.1)) && (y4.2.2.1 == y6.2.2.1)) && (y4.2.2.2 == y6.2.2.2)) && (y8.1 == y9.1)) && (y8.2.1 == y9.2.1)) && (y8.2.2 == y9.2.2)))) rfl rfl ?_
                  refine WO.nil ?_
                  refine WC.ret ?_
                  obtain rfl := Option.some.inj h
                  refine KB.ret (vs := [(.bool ((((((y10 && (y4.2.1 == y6.2.1)) && (y4.2.2.1 == y6.2.2.1)) && (y4.2.2.2 == y6.2.2.2)) && (y8.1 == y9.1)) && (y8.2.1 == y9.2.1)) && (y8.2.2 == y9.2.2)))]) (res_tmp rfl res_nil) ?_
                  exact rfl
end Go.Proofs.Ytkaifmdhkoiaeaa.M
