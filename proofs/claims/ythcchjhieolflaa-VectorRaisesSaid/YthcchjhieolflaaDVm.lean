/- Part of the proof: the runs of functions on the abstract machine. -/
import Derived.Test.YthcchjhieolflaaPam33
import Derived.Test.YthcchjhieolflaaFns
import Derived.Test.YthcchjhieolflaaDVe
import Derived.Test.YthcchjhieolflaaDVc
namespace Go.Proofs.Ythcchjhieolflaa.M
open Go Go.Pam Go.RowKit Go.WideShapes
set_option maxRecDepth 4000
set_option linter.unusedVariables false
set_option linter.unusedSimpArgs false

-- 8 prefect/prefectlaw11.VectorRaises
def F8_L0 (k : Nat) (a36 : Sl Api_CSN) (a37 : Sl Api_CSN) (a39 : Api_CSN) : Nat → Int → (Sl Api_CSN) → Option (Int × (Sl Api_CSN))
  | 0, _, _ => none
  | n + 1, x38, w35 =>
    if decide (x38 < 3) then
    Option.bind (Sl.at? w35 x38) fun y44 =>
    F8_L0 k a36 a37 a39 n (ad .i64 x38 1) (Sl.set w35 x38 (Api_CSN.mk y44.Time y44.Seq x38))
    else
    some (x38, w35)
def F8_L2 (k : Nat) (a265 : Sl Api_CSN) (a269 : Api_CSN) : Nat → (Sl Api_CSN) → Int → (Sl Api_CSN) → Option ((Sl Api_CSN) × Int × (Sl Api_CSN))
  | 0, _, _, _ => none
  | n + 1, x266, x268, w264 =>
    if decide (x268 < (Sl.len a265)) then
    Option.bind (Option.bind (Sl.at? a265 x268) fun y337 =>
    Option.bind (F24 k x266 y337) fun y338 =>
    Option.bind (Sl.at? a265 x268) fun y339 =>
    if (((((decide (y339.Time < 0)) || (decide (y339.Time > 1099511627776))) || (decide (y339.Seq < 0))) || (decide (y339.Seq > 65535))) || (decide (y339.Rep < 0))) || (decide (y339.Rep > 2)) then
    some (y338, w264)
    else
    Option.bind (Sl.at? w264 y339.Rep) fun y347 =>
    Option.bind (if (decide (y339.Time > y347.Time)) || ((y339.Time == y347.Time) && (decide (y339.Seq > y347.Seq))) then
    Option.bind (Sl.at? w264 y339.Rep) fun y364 =>
    some (Sl.set w264 y339.Rep y339)
    else
    some w264) fun y362 =>
    some (y338, y362)) fun y335 =>
    F8_L2 k a265 a269 n y335.1 (ad .i64 x268 1) y335.2
    else
    some (x266, x268, w264)
def F8_L4 (k : Nat) (a549 : Sl Api_CSN) (a550 : Sl Api_CSN) (a554 : Api_CSN) : Nat → Int → Api_CSN → Option (Out Bool (Int × Api_CSN))
  | 0, _, _ => none
  | n + 1, x552, b553 =>
    if decide (x552 < 3) then
    Option.bind (Sl.at? a550 x552) fun y594 =>
    Option.bind (Sl.at? a549 x552) fun y595 =>
    if !((y594.Time == y595.Time) && ((y594.Seq == y595.Seq) && ((y594.Rep == y595.Rep) && true))) then
    some (Out.ret false)
    else
    Option.bind (Sl.at? a549 x552) fun y598 =>
    Option.bind (if decide (y598.Time < b553.Time) then
    some true
    else
    Option.bind (Sl.at? a549 x552) fun y611 =>
    Option.bind (if y611.Time == b553.Time then
    Option.bind (Sl.at? a549 x552) fun y617 =>
    some (decide (y617.Seq < b553.Seq))
    else
    some false) fun y616 =>
    some y616) fun y610 =>
    Option.bind (if y610 then
    Option.bind (Sl.at? a549 x552) fun y628 =>
    some y628
    else
    some b553) fun y627 =>
    F8_L4 k a549 a550 a554 n (ad .i64 x552 1) y627
    else
    some (Out.brk (x552, b553))
/-- prefect/prefectlaw11.VectorRaises -/
def F8 (k : Nat) (a0 : Sl Api_CSN) (a1 : Api_CSN) : Option Bool :=
  Option.bind (F18 k ) fun y2 =>
  if !y2 then
  some false
  else
  if decide ((Sl.len a0) > 30) then
  some true
  else
  Option.bind (F20 k 3) fun y5 =>
  Option.bind (F8_L0 k a0 y5 a1 k 0 (some (List.replicate 3 (Api_CSN.mk 0 0 0)))) fun y49 =>
  Option.bind (F8_L2 k a0 a1 k y5 0 y49.2) fun y372 =>
  if (Sl.len y372.1) != 3 then
  some false
  else
  Option.bind (Sl.at? y372.2.2 0) fun y376 =>
  Option.bind (F8_L4 k y372.2.2 y372.1 a1 k 0 y376) fun y633 =>
  match y633 with
  | .ret y633r => some y633r
  | .brk y633b =>
  Option.bind (if (decide (a1.Rep ≥ 0)) && (decide (a1.Rep < 3)) then
  Option.bind (Sl.at? y372.2.2 (imax 0 (imin a1.Rep 2))) fun y660 =>
  Option.bind (if decide (a1.Time < y660.Time) then
  some true
  else
  Option.bind (Sl.at? y372.2.2 (imax 0 (imin a1.Rep 2))) fun y673 =>
  Option.bind (if a1.Time == y673.Time then
  Option.bind (Sl.at? y372.2.2 (imax 0 (imin a1.Rep 2))) fun y679 =>
  some (decide (a1.Seq ≤ y679.Seq))
  else
  some false) fun y678 =>
  some y678) fun y672 =>
  some y672
  else
  some false) fun y659 =>
  Option.bind (F32 k y372.1 a1) fun y684 =>
  Option.bind (if y684 == y659 then
  Option.bind (F34 k y372.1) fun y688 =>
  some ((y688.Time == y633b.2.Time) && ((y688.Seq == y633b.2.Seq) && ((y688.Rep == y633b.2.Rep) && true)))
  else
  some false) fun y687 =>
  some y687
theorem l8_L0 {k : Nat} {a36 : Sl Api_CSN} {a37 : Sl Api_CSN} {a39 : Api_CSN} {S0 : List SObj} {R : List Nat} {K : KX} {i1 : Nat} (hi1 : S0.length ≤ i1)  {o : (Int × (Sl Api_CSN))}
    (hbrk : ∀ {σ' : Nat → PV} {S' : List SObj}, ∀ (v48 : PV) (_ : IsArr 3 o.2 v48), Known [(0, (encSl e_Api_CSN a36)), (3, (.ptr i1 0)), (5, (encSl e_Api_CSN a37)), (6, v48), (7, (.int .i64 o.1))] σ' → Hp S0 R S' [(i1, .cells [(.int .i64 a39.Time), (.int .i64 a39.Seq), (.int .i64 a39.Rep)])] [] [(v48, rowO e_Api_CSN 3 false o.2)] → K (.exit 0) σ' S' false) :
    ∀ {n : Nat} {x38 : Int} {w35 : Sl Api_CSN}, F8_L0 k a36 a37 a39 n x38 w35 = some o → ∀ {σ : Nat → PV} {S : List SObj}, ∀ (v34 : PV) (_ : IsArr 3 w35 v34), Known [(0, (encSl e_Api_CSN a36)), (3, (.ptr i1 0)), (5, (encSl e_Api_CSN a37)), (6, v34), (7, (.int .i64 x38))] σ → Hp S0 R S [(i1, .cells [(.int .i64 a39.Time), (.int .i64 a39.Seq), (.int .i64 a39.Rep)])] [] [(v34, rowO e_Api_CSN 3 false w35)] → WC env ⟨199, S0.length⟩ (.loop pc8L0) σ S false K := by
  intro n
  induction n with
  | zero => intro _ _ h; cases h
  | succ n ih =>
    intro x38 w35 h σ S v34 hv34 hk H
    rw [F8_L0] at h
    refine WC.loop ?_
    refine WC.of_known hk ?_
    refine WC.seq ?_
    refine WC.seqR ?_
    refine WO.step (v := (.int .i64 x38)) rfl (nz rfl rfl) ?_
    refine WO.step (v := (.bool (decide (x38 < 3)))) rfl (nz rfl rfl) ?_
    refine WO.nil ?_
    rcases iteS h with ⟨hc47, h⟩ | ⟨hc47, h⟩
    · refine WC.condT rfl hc47 ?_
      refine WC.skip ?_
      refine KX.seq_n ?_
      refine WC.seq ?_
      refine WC.block ?_
      refine WC.region ?_
      refine WO.step (v := (.int .i64 x38)) rfl (nz rfl rfl) ?_
      refine WO.step (v := (.int .i64 x38)) rfl (nz rfl rfl) ?_
      obtain ⟨y44, hy44, h⟩ := bindS h
      obtain ⟨i45, hi45⟩ := IsArr.id hv34
      refine WO.step (v := (.ptr i45 (Int.toNat x38 * 3 + 0))) rfl (nz rfl (stp_idxA (sz := 3) rfl hv34 rfl rfl rfl hy44 hi45)) ?_
      refine WO.step (v := (.ptr i45 (Int.toNat x38 * 3 + 2))) rfl (nz rfl rfl) ?_
      refine WO.storeW 0 (f := e_Api_CSN) (u := (.int .i64 x38)) (y' := (Api_CSN.mk y44.Time y44.Seq x38)) (xc := [(.int .i64 x38)]) (e' := false) rfl rfl H rfl hi45 rfl rfl hy44 rfl rfl rfl rfl (Nat.le_of_ble_eq_true rfl) (Nat.le_of_ble_eq_true rfl) rfl (clean_e rfl) ?_
      intro S H
      have hw46 := IsArr.set hv34 x38 (Api_CSN.mk y44.Time y44.Seq x38)
      replace H : Hp S0 R _ [(i1, .cells [(.int .i64 a39.Time), (.int .i64 a39.Seq), (.int .i64 a39.Rep)])] [] [(v34, rowO e_Api_CSN 3 false (Sl.set w35 x38 (Api_CSN.mk y44.Time y44.Seq x38)))] := H
      refine WO.nil ?_
      refine KX.block_n ?_
      refine KX.seq_n ?_
      refine WC.region ?_
      refine WO.step (v := (.int .i64 x38)) rfl (nz rfl rfl) ?_
      refine WO.step (v := (.int .i64 (ad .i64 x38 1))) rfl (nz rfl rfl) ?_
      refine WO.step (v := (.int .i64 (ad .i64 x38 1))) rfl (nz rfl rfl) ?_
      refine WO.nil ?_
      refine KX.seq_n ?_
      exact ih h v34 (hw46) (known_cons rfl (known_cons rfl (known_cons rfl (known_cons rfl (known_cons rfl known_nil))))) (H.sub (.cons_cons _ .slnil) .slnil (.cons_cons _ .slnil))
    · refine WC.condF rfl hc47 ?_
      refine WC.exit ?_
      refine KX.seq_x ?_
      refine KX.seq_x ?_
      obtain rfl := Option.some.inj h
      exact hbrk v34 (hv34) (known_cons rfl (known_cons rfl (known_cons rfl (known_cons rfl (known_cons rfl known_nil))))) (H.sub (.cons_cons _ .slnil) .slnil (.cons_cons _ .slnil))
theorem l8_L2 {k : Nat} {a265 : Sl Api_CSN} {a269 : Api_CSN} {S0 : List SObj} {R : List Nat} {K : KX} {i1 : Nat} (hi1 : S0.length ≤ i1)  {o : ((Sl Api_CSN) × Int × (Sl Api_CSN))}
    (hbrk : ∀ {σ' : Nat → PV} {S' : List SObj}, ∀ (v370 : PV) (_ : IsSl e_Api_CSN o.1 v370), ∀ (v371 : PV) (_ : IsArr 3 o.2.2 v371), Known [(3, (.ptr i1 0)), (5, v370), (6, v371), (8, (.int .i64 o.2.1))] σ' → Hp S0 R S' [(i1, .cells [(.int .i64 a269.Time), (.int .i64 a269.Seq), (.int .i64 a269.Rep)])] [] [(v371, rowO e_Api_CSN 3 false o.2.2)] → K (.exit 2) σ' S' false) :
    ∀ {n : Nat} {x266 : Sl Api_CSN} {x268 : Int} {w264 : Sl Api_CSN}, F8_L2 k a265 a269 n x266 x268 w264 = some o → ∀ {σ : Nat → PV} {S : List SObj}, ∀ (v263 : PV) (_ : IsArr 3 w264 v263), ∀ (v267 : PV) (_ : IsSl e_Api_CSN x266 v267), Known [(0, (encSl e_Api_CSN a265)), (3, (.ptr i1 0)), (5, v267), (6, v263), (8, (.int .i64 x268))] σ → Hp S0 R S [(i1, .cells [(.int .i64 a269.Time), (.int .i64 a269.Seq), (.int .i64 a269.Rep)])] [] [(v263, rowO e_Api_CSN 3 false w264)] → WC env ⟨199, S0.length⟩ (.loop pc8L2) σ S false K := by
  intro n
  induction n with
  | zero => intro _ _ _ h; cases h
  | succ n ih =>
    intro x266 x268 w264 h σ S v263 hv263 v267 hv267 hk H
    rw [F8_L2] at h
    refine WC.loop ?_
    refine WC.of_known hk ?_
    refine WC.seq ?_
    refine WC.seqR ?_
    refine WO.step (v := (.int .i64 x268)) rfl (nz rfl rfl) ?_
    refine WO.step (v := (encSl e_Api_CSN a265)) rfl (nz rfl rfl) ?_
    refine WO.step (v := (.int .i64 (Sl.len a265))) rfl (nz rfl (stp_len rfl (isSl_enc _ _) rfl)) ?_
    refine WO.step (v := (.bool (decide (x268 < (Sl.len a265))))) rfl (nz rfl rfl) ?_
    refine WO.nil ?_
    rcases iteS h with ⟨hc369, h⟩ | ⟨hc369, h⟩
    · refine WC.condT rfl hc369 ?_
      refine WC.skip ?_
      refine KX.seq_n ?_
      refine WC.seq ?_
      obtain ⟨y335, hy335, hOy335⟩ := bindS h
      refine WC.join (fun σ' S' e' => IsArr 3 y335.2 v263 ∧ Known ([(0, (encSl e_Api_CSN a265)), (3, (.ptr i1 0)), (5, (encSl e_Api_CSN y335.1)), (6, v263), (8, (.int .i64 x268))]) σ' ∧ Hp S0 R S' [(i1, .cells [(.int .i64 a269.Time), (.int .i64 a269.Seq), (.int .i64 a269.Rep)])] [] [(v263, rowO e_Api_CSN 3 false y335.2)] ∧ e' = false) ?_ ?_
      · replace h := hy335
        refine WC.block ?_
        refine WC.seqR ?_
        refine WO.step (v := v267) rfl (nz rfl rfl) ?_
        refine WO.step (v := (encSl e_Api_CSN a265)) rfl (nz rfl rfl) ?_
        refine WO.step (v := (.int .i64 x268)) rfl (nz rfl rfl) ?_
        obtain ⟨y337, hy337, h⟩ := bindS h
        refine WO.step (v := (.iptr [(.int .i64 y337.Time), (.int .i64 y337.Seq), (.int .i64 y337.Rep)] 0)) rfl (nz rfl (stp_idxAddr rfl (isSl_enc _ _) rfl rfl rfl hy337 (e_Api_CSN_cells _) rfl)) ?_
        refine WO.step (v := (.agg [(.int .i64 y337.Time), (.int .i64 y337.Seq), (.int .i64 y337.Rep)])) rfl (nz rfl rfl) ?_
        obtain ⟨y338, hy338, h⟩ := bindS h
        refine WO.step (v := (encSl e_Api_CSN y338)) rfl (nz (fz_tmp' hv267.frz (fz_tmp' rfl rfl)) (stp_call (vs := [v267, (.agg [(.int .i64 y337.Time), (.int .i64 y337.Seq), (.int .i64 y337.Rep)])]) rfl rfl (s24 _ hy338 (by simp only [hv267.strip, st_agg, List.map_cons, List.map_nil, st1_int, tupled, e_Api_CSN]) _))) ?_
        refine WO.step (v := (encSl e_Api_CSN y338)) rfl (nz rfl rfl) ?_
        refine WO.nil ?_
        refine WC.seqR ?_
        refine WO.step (v := (encSl e_Api_CSN a265)) rfl (nz rfl rfl) ?_
        refine WO.step (v := (.int .i64 x268)) rfl (nz rfl rfl) ?_
        obtain ⟨y339, hy339, h⟩ := bindS h
        refine WO.step (v := (.iptr [(.int .i64 y339.Time), (.int .i64 y339.Seq), (.int .i64 y339.Rep)] 0)) rfl (nz rfl (stp_idxAddr rfl (isSl_enc _ _) rfl rfl rfl hy339 (e_Api_CSN_cells _) rfl)) ?_
        refine WO.step (v := (.agg [(.int .i64 y339.Time), (.int .i64 y339.Seq), (.int .i64 y339.Rep)])) rfl (nz rfl rfl) ?_
        refine WO.alloc' (ti := ty50) rfl rfl rfl rfl H ?_
        intro i340 S hi340 H
        refine WO.store 0 rfl rfl H rfl rfl rfl rfl rfl rfl rfl (Nat.le_of_ble_eq_true rfl) rfl (own_e hi340) ?_
        intro S H
        replace H : Hp S0 R _ [(i340, .cells [(.int .i64 y339.Time), (.int .i64 y339.Seq), (.int .i64 y339.Rep)]), (i1, .cells [(.int .i64 a269.Time), (.int .i64 a269.Seq), (.int .i64 a269.Rep)])] [] [(v263, rowO e_Api_CSN 3 false w264)] := H
        refine WO.nil ?_
        refine WC.seq ?_
        refine WC.seqR ?_
        refine WO.step (v := (.ptr i340 0)) rfl (nz rfl rfl) ?_
        refine WO.step (v := (.int .i64 y339.Time)) rfl (nz rfl (stp_load rfl (H.get 0 rfl) rfl)) ?_
        refine WO.step (v := (.bool (decide (y339.Time < 0)))) rfl (nz rfl rfl) ?_
        refine WO.step (v := (.bool (decide (y339.Time < 0)))) rfl (nz rfl rfl) ?_
        refine WO.split 4 (fun σ' S' e' => Known ([(0, (encSl e_Api_CSN a265)), (3, (.ptr i1 0)), (5, (encSl e_Api_CSN y338)), (6, v263), (8, (.int .i64 x268)), (9, (.ptr i340 0)), (51, (.bool ((decide (y339.Time < 0)) || (decide (y339.Time > 1099511627776)))))]) σ' ∧ Hp S0 R S' [(i340, .cells [(.int .i64 y339.Time), (.int .i64 y339.Seq), (.int .i64 y339.Rep)]), (i1, .cells [(.int .i64 a269.Time), (.int .i64 a269.Seq), (.int .i64 a269.Rep)])] [] [(v263, rowO e_Api_CSN 3 false w264)] ∧ e' = false) ?_ ?_
        · cases hc341 : (decide (y339.Time < 0))
          · skip
            refine WO.go0 rfl rfl ?_
            refine WO.step (v := (.ptr i340 0)) rfl (nz rfl rfl) ?_
            refine WO.go0 rfl rfl ?_
            refine WO.step (v := (.int .i64 y339.Time)) rfl (nz rfl (stp_load rfl (H.get 0 rfl) rfl)) ?_
            refine WO.go0 rfl rfl ?_
            refine WO.step (v := (.bool (decide (y339.Time > 1099511627776)))) rfl (nz rfl rfl) ?_
            refine WO.step (v := (.bool (decide (y339.Time > 1099511627776)))) rfl (nz rfl rfl) ?_
            refine WO.nil ?_
            exact ⟨(known_cons rfl (known_cons rfl (known_cons rfl (known_cons rfl (known_cons rfl (known_cons rfl (known_cons rfl known_nil))))))), H, rfl⟩
          · skip
            refine WO.by rfl rfl rfl ?_
            refine WO.by rfl rfl rfl ?_
            refine WO.by rfl rfl rfl ?_
            refine WO.step (v := (.bool true)) rfl (nz rfl rfl) ?_
            refine WO.nil ?_
            exact ⟨(known_cons rfl (known_cons rfl (known_cons rfl (known_cons rfl (known_cons rfl (known_cons rfl (known_cons rfl known_nil))))))), H, rfl⟩
        · rintro σ S e ⟨hk, H, rfl⟩
          refine WO.of_known hk ?_
          refine WO.step (v := (.bool ((decide (y339.Time < 0)) || (decide (y339.Time > 1099511627776))))) rfl (nz rfl rfl) ?_
          refine WO.split 4 (fun σ' S' e' => Known ([(0, (encSl e_Api_CSN a265)), (3, (.ptr i1 0)), (5, (encSl e_Api_CSN y338)), (6, v263), (8, (.int .i64 x268)), (9, (.ptr i340 0)), (56, (.bool (((decide (y339.Time < 0)) || (decide (y339.Time > 1099511627776))) || (decide (y339.Seq < 0)))))]) σ' ∧ Hp S0 R S' [(i340, .cells [(.int .i64 y339.Time), (.int .i64 y339.Seq), (.int .i64 y339.Rep)]), (i1, .cells [(.int .i64 a269.Time), (.int .i64 a269.Seq), (.int .i64 a269.Rep)])] [] [(v263, rowO e_Api_CSN 3 false w264)] ∧ e' = false) ?_ ?_
          · cases hc342 : ((decide (y339.Time < 0)) || (decide (y339.Time > 1099511627776)))
            · skip
              refine WO.go0 rfl rfl ?_
              refine WO.step (v := (.ptr i340 1)) rfl (nz rfl rfl) ?_
              refine WO.go0 rfl rfl ?_
              refine WO.step (v := (.int .i64 y339.Seq)) rfl (nz rfl (stp_load rfl (H.get 0 rfl) rfl)) ?_
              refine WO.go0 rfl rfl ?_
              refine WO.step (v := (.bool (decide (y339.Seq < 0)))) rfl (nz rfl rfl) ?_
              refine WO.step (v := (.bool (decide (y339.Seq < 0)))) rfl (nz rfl rfl) ?_
              refine WO.nil ?_
              exact ⟨(known_cons rfl (known_cons rfl (known_cons rfl (known_cons rfl (known_cons rfl (known_cons rfl (known_cons rfl known_nil))))))), H, rfl⟩
            · skip
              refine WO.by rfl rfl rfl ?_
              refine WO.by rfl rfl rfl ?_
              refine WO.by rfl rfl rfl ?_
              refine WO.step (v := (.bool true)) rfl (nz rfl rfl) ?_
              refine WO.nil ?_
              exact ⟨(known_cons rfl (known_cons rfl (known_cons rfl (known_cons rfl (known_cons rfl (known_cons rfl (known_cons rfl known_nil))))))), H, rfl⟩
          · rintro σ S e ⟨hk, H, rfl⟩
            refine WO.of_known hk ?_
            refine WO.step (v := (.bool (((decide (y339.Time < 0)) || (decide (y339.Time > 1099511627776))) || (decide (y339.Seq < 0))))) rfl (nz rfl rfl) ?_
            refine WO.split 4 (fun σ' S' e' => Known ([(0, (encSl e_Api_CSN a265)), (3, (.ptr i1 0)), (5, (encSl e_Api_CSN y338)), (6, v263), (8, (.int .i64 x268)), (9, (.ptr i340 0)), (61, (.bool ((((decide (y339.Time < 0)) || (decide (y339.Time > 1099511627776))) || (decide (y339.Seq < 0))) || (decide (y339.Seq > 65535)))))]) σ' ∧ Hp S0 R S' [(i340, .cells [(.int .i64 y339.Time), (.int .i64 y339.Seq), (.int .i64 y339.Rep)]), (i1, .cells [(.int .i64 a269.Time), (.int .i64 a269.Seq), (.int .i64 a269.Rep)])] [] [(v263, rowO e_Api_CSN 3 false w264)] ∧ e' = false) ?_ ?_
            · cases hc343 : (((decide (y339.Time < 0)) || (decide (y339.Time > 1099511627776))) || (decide (y339.Seq < 0)))
              · skip
                refine WO.go0 rfl rfl ?_
                refine WO.step (v := (.ptr i340 1)) rfl (nz rfl rfl) ?_
                refine WO.go0 rfl rfl ?_
                refine WO.step (v := (.int .i64 y339.Seq)) rfl (nz rfl (stp_load rfl (H.get 0 rfl) rfl)) ?_
                refine WO.go0 rfl rfl ?_
                refine WO.step (v := (.bool (decide (y339.Seq > 65535)))) rfl (nz rfl rfl) ?_
                refine WO.step (v := (.bool (decide (y339.Seq > 65535)))) rfl (nz rfl rfl) ?_
                refine WO.nil ?_
                exact ⟨(known_cons rfl (known_cons rfl (known_cons rfl (known_cons rfl (known_cons rfl (known_cons rfl (known_cons rfl known_nil))))))), H, rfl⟩
              · skip
                refine WO.by rfl rfl rfl ?_
                refine WO.by rfl rfl rfl ?_
                refine WO.by rfl rfl rfl ?_
                refine WO.step (v := (.bool true)) rfl (nz rfl rfl) ?_
                refine WO.nil ?_
                exact ⟨(known_cons rfl (known_cons rfl (known_cons rfl (known_cons rfl (known_cons rfl (known_cons rfl (known_cons rfl known_nil))))))), H, rfl⟩
            · rintro σ S e ⟨hk, H, rfl⟩
              refine WO.of_known hk ?_
              refine WO.step (v := (.bool ((((decide (y339.Time < 0)) || (decide (y339.Time > 1099511627776))) || (decide (y339.Seq < 0))) || (decide (y339.Seq > 65535))))) rfl (nz rfl rfl) ?_
              refine WO.split 4 (fun σ' S' e' => Known ([(0, (encSl e_Api_CSN a265)), (3, (.ptr i1 0)), (5, (encSl e_Api_CSN y338)), (6, v263), (8, (.int .i64 x268)), (9, (.ptr i340 0)), (66, (.bool (((((decide (y339.Time < 0)) || (decide (y339.Time > 1099511627776))) || (decide (y339.Seq < 0))) || (decide (y339.Seq > 65535))) || (decide (y339.Rep < 0)))))]) σ' ∧ Hp S0 R S' [(i340, .cells [(.int .i64 y339.Time), (.int .i64 y339.Seq), (.int .i64 y339.Rep)]), (i1, .cells [(.int .i64 a269.Time), (.int .i64 a269.Seq), (.int .i64 a269.Rep)])] [] [(v263, rowO e_Api_CSN 3 false w264)] ∧ e' = false) ?_ ?_
              · cases hc344 : ((((decide (y339.Time < 0)) || (decide (y339.Time > 1099511627776))) || (decide (y339.Seq < 0))) || (decide (y339.Seq > 65535)))
                · skip
                  refine WO.go0 rfl rfl ?_
                  refine WO.step (v := (.ptr i340 2)) rfl (nz rfl rfl) ?_
                  refine WO.go0 rfl rfl ?_
                  refine WO.step (v := (.int .i64 y339.Rep)) rfl (nz rfl (stp_load rfl (H.get 0 rfl) rfl)) ?_
                  refine WO.go0 rfl rfl ?_
                  refine WO.step (v := (.bool (decide (y339.Rep < 0)))) rfl (nz rfl rfl) ?_
                  refine WO.step (v := (.bool (decide (y339.Rep < 0)))) rfl (nz rfl rfl) ?_
                  refine WO.nil ?_
                  exact ⟨(known_cons rfl (known_cons rfl (known_cons rfl (known_cons rfl (known_cons rfl (known_cons rfl (known_cons rfl known_nil))))))), H, rfl⟩
                · skip
                  refine WO.by rfl rfl rfl ?_
                  refine WO.by rfl rfl rfl ?_
                  refine WO.by rfl rfl rfl ?_
                  refine WO.step (v := (.bool true)) rfl (nz rfl rfl) ?_
                  refine WO.nil ?_
                  exact ⟨(known_cons rfl (known_cons rfl (known_cons rfl (known_cons rfl (known_cons rfl (known_cons rfl (known_cons rfl known_nil))))))), H, rfl⟩
              · rintro σ S e ⟨hk, H, rfl⟩
                refine WO.of_known hk ?_
                refine WO.step (v := (.bool (((((decide (y339.Time < 0)) || (decide (y339.Time > 1099511627776))) || (decide (y339.Seq < 0))) || (decide (y339.Seq > 65535))) || (decide (y339.Rep < 0))))) rfl (nz rfl rfl) ?_
                refine WO.split 4 (fun σ' S' e' => Known ([(0, (encSl e_Api_CSN a265)), (3, (.ptr i1 0)), (5, (encSl e_Api_CSN y338)), (6, v263), (8, (.int .i64 x268)), (9, (.ptr i340 0)), (71, (.bool ((((((decide (y339.Time < 0)) || (decide (y339.Time > 1099511627776))) || (decide (y339.Seq < 0))) || (decide (y339.Seq > 65535))) || (decide (y339.Rep < 0))) || (decide (y339.Rep > 2)))))]) σ' ∧ Hp S0 R S' [(i340, .cells [(.int .i64 y339.Time), (.int .i64 y339.Seq), (.int .i64 y339.Rep)]), (i1, .cells [(.int .i64 a269.Time), (.int .i64 a269.Seq), (.int .i64 a269.Rep)])] [] [(v263, rowO e_Api_CSN 3 false w264)] ∧ e' = false) ?_ ?_
                · cases hc345 : (((((decide (y339.Time < 0)) || (decide (y339.Time > 1099511627776))) || (decide (y339.Seq < 0))) || (decide (y339.Seq > 65535))) || (decide (y339.Rep < 0)))
                  · skip
                    refine WO.go0 rfl rfl ?_
                    refine WO.step (v := (.ptr i340 2)) rfl (nz rfl rfl) ?_
                    refine WO.go0 rfl rfl ?_
                    refine WO.step (v := (.int .i64 y339.Rep)) rfl (nz rfl (stp_load rfl (H.get 0 rfl) rfl)) ?_
                    refine WO.go0 rfl rfl ?_
                    refine WO.step (v := (.bool (decide (y339.Rep > 2)))) rfl (nz rfl rfl) ?_
                    refine WO.step (v := (.bool (decide (y339.Rep > 2)))) rfl (nz rfl rfl) ?_
                    refine WO.nil ?_
                    exact ⟨(known_cons rfl (known_cons rfl (known_cons rfl (known_cons rfl (known_cons rfl (known_cons rfl (known_cons rfl known_nil))))))), H, rfl⟩
                  · skip
                    refine WO.by rfl rfl rfl ?_
                    refine WO.by rfl rfl rfl ?_
                    refine WO.by rfl rfl rfl ?_
                    refine WO.step (v := (.bool true)) rfl (nz rfl rfl) ?_
                    refine WO.nil ?_
                    exact ⟨(known_cons rfl (known_cons rfl (known_cons rfl (known_cons rfl (known_cons rfl (known_cons rfl (known_cons rfl known_nil))))))), H, rfl⟩
                · rintro σ S e ⟨hk, H, rfl⟩
                  refine WO.of_known hk ?_
                  refine WO.nil ?_
                  rcases iteS h with ⟨hc368, h⟩ | ⟨hc368, h⟩
                  · refine WC.condT rfl hc368 ?_
                    refine WC.exit ?_
                    refine KX.seq_x ?_
                    refine KX.block_x ?_
                    refine KX.seq_n ?_
                    obtain rfl := Option.some.inj h
                    exact ⟨hv263, (known_cons rfl (known_cons rfl (known_cons rfl (known_cons rfl (known_cons rfl known_nil))))), (H.sub (.cons _ (.cons_cons _ .slnil)) .slnil (.cons_cons _ .slnil)), rfl⟩
                  · refine WC.condF rfl hc368 ?_
                    refine WC.skip ?_
                    refine KX.seq_n ?_
                    refine WC.seqR ?_
                    refine WO.step (v := (.ptr i340 2)) rfl (nz rfl rfl) ?_
                    refine WO.step (v := (.int .i64 y339.Rep)) rfl (nz rfl (stp_load rfl (H.get 0 rfl) rfl)) ?_
                    obtain ⟨y347, hy347, h⟩ := bindS h
                    obtain ⟨i348, hi348⟩ := IsArr.id hv263
                    refine WO.step (v := (.ptr i348 (Int.toNat y339.Rep * 3 + 0))) rfl (nz rfl (stp_idxA (sz := 3) rfl hv263 rfl rfl rfl hy347 hi348)) ?_
                    refine WO.step (v := (.agg [(.int .i64 y347.Time), (.int .i64 y347.Seq), (.int .i64 y347.Rep)])) rfl (nz rfl (stp_loadW rfl (H.getW 0 rfl hi348) hy347 (Nat.le_of_ble_eq_true rfl) rfl)) ?_
                    refine WO.alloc' (ti := ty50) rfl rfl rfl rfl H ?_
                    intro i349 S hi349 H
                    refine WO.store 0 rfl rfl H rfl rfl rfl rfl rfl rfl rfl (Nat.le_of_ble_eq_true rfl) rfl (own_e hi349) ?_
                    intro S H
                    replace H : Hp S0 R _ [(i349, .cells [(.int .i64 y347.Time), (.int .i64 y347.Seq), (.int .i64 y347.Rep)]), (i340, .cells [(.int .i64 y339.Time), (.int .i64 y339.Seq), (.int .i64 y339.Rep)]), (i1, .cells [(.int .i64 a269.Time), (.int .i64 a269.Seq), (.int .i64 a269.Rep)])] [] [(v263, rowO e_Api_CSN 3 false w264)] := H
                    refine WO.nil ?_
                    refine WC.seqR ?_
                    refine WO.step (v := (.ptr i340 0)) rfl (nz rfl rfl) ?_
                    refine WO.step (v := (.int .i64 y339.Time)) rfl (nz rfl (stp_load rfl (H.get 1 rfl) rfl)) ?_
                    refine WO.step (v := (.ptr i349 0)) rfl (nz rfl rfl) ?_
                    refine WO.step (v := (.int .i64 y347.Time)) rfl (nz rfl (stp_load rfl (H.get 0 rfl) rfl)) ?_
                    refine WO.step (v := (.bool (decide (y339.Time > y347.Time)))) rfl (nz rfl rfl) ?_
                    refine WO.step (v := (.bool (decide (y339.Time > y347.Time)))) rfl (nz rfl rfl) ?_
                    refine WO.split 13 (fun σ' S' e' => Known ([(0, (encSl e_Api_CSN a265)), (3, (.ptr i1 0)), (5, (encSl e_Api_CSN y338)), (6, v263), (8, (.int .i64 x268)), (9, (.ptr i340 0)), (94, (.bool ((decide (y339.Time > y347.Time)) || ((y339.Time == y347.Time) && (decide (y339.Seq > y347.Seq))))))]) σ' ∧ Hp S0 R S' [(i349, .cells [(.int .i64 y347.Time), (.int .i64 y347.Seq), (.int .i64 y347.Rep)]), (i340, .cells [(.int .i64 y339.Time), (.int .i64 y339.Seq), (.int .i64 y339.Rep)]), (i1, .cells [(.int .i64 a269.Time), (.int .i64 a269.Seq), (.int .i64 a269.Rep)])] [] [(v263, rowO e_Api_CSN 3 false w264)] ∧ e' = false) ?_ ?_
                    · cases hc352 : (decide (y339.Time > y347.Time))
                      · skip
                        refine WO.go0 rfl rfl ?_
                        refine WO.step (v := (.ptr i340 0)) rfl (nz rfl rfl) ?_
                        refine WO.go0 rfl rfl ?_
                        refine WO.step (v := (.int .i64 y339.Time)) rfl (nz rfl (stp_load rfl (H.get 1 rfl) rfl)) ?_
                        refine WO.go0 rfl rfl ?_
                        refine WO.step (v := (.ptr i349 0)) rfl (nz rfl rfl) ?_
                        refine WO.go0 rfl rfl ?_
                        refine WO.step (v := (.int .i64 y347.Time)) rfl (nz rfl (stp_load rfl (H.get 0 rfl) rfl)) ?_
                        refine WO.go0 rfl rfl ?_
                        refine WO.step (v := (.bool (y339.Time == y347.Time))) rfl (nz rfl rfl) ?_
                        refine WO.go0 rfl rfl ?_
                        refine WO.step (v := (.bool (y339.Time == y347.Time))) rfl (nz rfl rfl) ?_
                        refine WO.split 6 (fun σ' S' e' => Known ([(0, (encSl e_Api_CSN a265)), (3, (.ptr i1 0)), (5, (encSl e_Api_CSN y338)), (6, v263), (8, (.int .i64 x268)), (9, (.ptr i340 0)), (81, (.bool false)), (93, (.bool ((y339.Time == y347.Time) && (decide (y339.Seq > y347.Seq)))))]) σ' ∧ Hp S0 R S' [(i349, .cells [(.int .i64 y347.Time), (.int .i64 y347.Seq), (.int .i64 y347.Rep)]), (i340, .cells [(.int .i64 y339.Time), (.int .i64 y339.Seq), (.int .i64 y339.Rep)]), (i1, .cells [(.int .i64 a269.Time), (.int .i64 a269.Seq), (.int .i64 a269.Rep)])] [] [(v263, rowO e_Api_CSN 3 false w264)] ∧ e' = false) ?_ ?_
                        · cases hc353 : (y339.Time == y347.Time)
                          · skip
                            refine WO.by rfl rfl rfl ?_
                            refine WO.by rfl rfl rfl ?_
                            refine WO.by rfl rfl rfl ?_
                            refine WO.by rfl rfl rfl ?_
                            refine WO.by rfl rfl rfl ?_
                            refine WO.go0 rfl rfl ?_
                            refine WO.step (v := (.bool false)) rfl (nz rfl rfl) ?_
                            refine WO.nil ?_
                            exact ⟨(known_cons rfl (known_cons rfl (known_cons rfl (known_cons rfl (known_cons rfl (known_cons rfl (known_cons rfl (known_cons rfl known_nil)))))))), H, rfl⟩
                          · skip
                            refine WO.go0 rfl rfl ?_
                            refine WO.step (v := (.ptr i340 1)) rfl (nz rfl rfl) ?_
                            refine WO.go0 rfl rfl ?_
                            refine WO.step (v := (.int .i64 y339.Seq)) rfl (nz rfl (stp_load rfl (H.get 1 rfl) rfl)) ?_
                            refine WO.go0 rfl rfl ?_
                            refine WO.step (v := (.ptr i349 1)) rfl (nz rfl rfl) ?_
                            refine WO.go0 rfl rfl ?_
                            refine WO.step (v := (.int .i64 y347.Seq)) rfl (nz rfl (stp_load rfl (H.get 0 rfl) rfl)) ?_
                            refine WO.go0 rfl rfl ?_
                            refine WO.step (v := (.bool (decide (y339.Seq > y347.Seq)))) rfl (nz rfl rfl) ?_
                            refine WO.go0 rfl rfl ?_
                            refine WO.step (v := (.bool (decide (y339.Seq > y347.Seq)))) rfl (nz rfl rfl) ?_
                            refine WO.nil ?_
                            exact ⟨(known_cons rfl (known_cons rfl (known_cons rfl (known_cons rfl (known_cons rfl (known_cons rfl (known_cons rfl (known_cons rfl known_nil)))))))), H, rfl⟩
                        · rintro σ S e ⟨hk, H, rfl⟩
                          refine WO.of_known hk ?_
                          refine WO.step (v := (.bool ((y339.Time == y347.Time) && (decide (y339.Seq > y347.Seq))))) rfl (nz rfl rfl) ?_
                          refine WO.nil ?_
                          exact ⟨(known_cons rfl (known_cons rfl (known_cons rfl (known_cons rfl (known_cons rfl (known_cons rfl (known_cons rfl known_nil))))))), H, rfl⟩
                      · skip
                        refine WO.by rfl rfl rfl ?_
                        refine WO.by rfl rfl rfl ?_
                        refine WO.by rfl rfl rfl ?_
                        refine WO.by rfl rfl rfl ?_
                        refine WO.by rfl rfl rfl ?_
                        refine WO.by rfl rfl rfl ?_
                        refine WO.by0 rfl rfl ?_
                        refine WO.by0 rfl rfl ?_
                        refine WO.by0 rfl rfl ?_
                        refine WO.by0 rfl rfl ?_
                        refine WO.by0 rfl rfl ?_
                        refine WO.by rfl rfl rfl ?_
                        refine WO.step (v := (.bool true)) rfl (nz rfl rfl) ?_
                        refine WO.nil ?_
                        exact ⟨(known_cons rfl (known_cons rfl (known_cons rfl (known_cons rfl (known_cons rfl (known_cons rfl (known_cons rfl known_nil))))))), H, rfl⟩
                    · rintro σ S e ⟨hk, H, rfl⟩
                      refine WO.of_known hk ?_
                      refine WO.nil ?_
                      obtain ⟨y362, hy362, hOy362⟩ := bindS h
                      refine WC.join (fun σ' S' e' => IsArr 3 y362 v263 ∧ Known ([(0, (encSl e_Api_CSN a265)), (3, (.ptr i1 0)), (5, (encSl e_Api_CSN y338)), (6, v263), (8, (.int .i64 x268))]) σ' ∧ Hp S0 R S' [(i349, .cells [(.int .i64 y347.Time), (.int .i64 y347.Seq), (.int .i64 y347.Rep)]), (i340, .cells [(.int .i64 y339.Time), (.int .i64 y339.Seq), (.int .i64 y339.Rep)]), (i1, .cells [(.int .i64 a269.Time), (.int .i64 a269.Seq), (.int .i64 a269.Rep)])] [] [(v263, rowO e_Api_CSN 3 false y362)] ∧ e' = false) ?_ ?_
                      · replace h := hy362
                        rcases iteS h with ⟨hc367, h⟩ | ⟨hc367, h⟩
                        · refine WC.condT rfl hc367 ?_
                          refine WC.region ?_
                          refine WO.step (v := (.ptr i340 2)) rfl (nz rfl rfl) ?_
                          refine WO.step (v := (.int .i64 y339.Rep)) rfl (nz rfl (stp_load rfl (H.get 1 rfl) rfl)) ?_
                          refine WO.step (v := (.agg [(.int .i64 y339.Time), (.int .i64 y339.Seq), (.int .i64 y339.Rep)])) rfl (nz rfl (stp_load rfl (H.get 1 rfl) rfl)) ?_
                          obtain ⟨y364, hy364, h⟩ := bindS h
                          obtain ⟨i365, hi365⟩ := IsArr.id hv263
                          refine WO.step (v := (.ptr i365 (Int.toNat y339.Rep * 3 + 0))) rfl (nz rfl (stp_idxA (sz := 3) rfl hv263 rfl rfl rfl hy364 hi365)) ?_
                          refine WO.storeW 0 (f := e_Api_CSN) (u := (.agg [(.int .i64 y339.Time), (.int .i64 y339.Seq), (.int .i64 y339.Rep)])) (y' := y339) (xc := [(.int .i64 y339.Time), (.int .i64 y339.Seq), (.int .i64 y339.Rep)]) (e' := false) rfl rfl H rfl hi365 rfl rfl hy364 rfl rfl rfl rfl (Nat.le_of_ble_eq_true rfl) (Nat.le_of_ble_eq_true rfl) rfl (clean_e (by simp [PV.clean, cleanL])) ?_
                          intro S H
                          have hw366 := IsArr.set hv263 y339.Rep y339
                          replace H : Hp S0 R _ [(i349, .cells [(.int .i64 y347.Time), (.int .i64 y347.Seq), (.int .i64 y347.Rep)]), (i340, .cells [(.int .i64 y339.Time), (.int .i64 y339.Seq), (.int .i64 y339.Rep)]), (i1, .cells [(.int .i64 a269.Time), (.int .i64 a269.Seq), (.int .i64 a269.Rep)])] [] [(v263, rowO e_Api_CSN 3 false (Sl.set w264 y339.Rep y339))] := H
                          refine WO.nil ?_
                          refine KX.seq_n ?_
                          obtain rfl := Option.some.inj h
                          exact ⟨hw366, (known_cons rfl (known_cons rfl (known_cons rfl (known_cons rfl (known_cons rfl known_nil))))), (H.sub (.cons_cons _ (.cons_cons _ (.cons_cons _ .slnil))) .slnil (.cons_cons _ .slnil)), rfl⟩
                        · refine WC.condF rfl hc367 ?_
                          refine WC.skip ?_
                          refine KX.seq_n ?_
                          obtain rfl := Option.some.inj h
                          exact ⟨hv263, (known_cons rfl (known_cons rfl (known_cons rfl (known_cons rfl (known_cons rfl known_nil))))), (H.sub (.cons_cons _ (.cons_cons _ (.cons_cons _ .slnil))) .slnil (.cons_cons _ .slnil)), rfl⟩
                      · rintro σ S e ⟨hw363, hk, H, rfl⟩
                        replace h := hOy362
                        refine KX.of_known hk ?_
                        refine KX.block_n ?_
                        refine KX.seq_n ?_
                        obtain rfl := Option.some.inj h
                        exact ⟨hw363, (known_cons rfl (known_cons rfl (known_cons rfl (known_cons rfl (known_cons rfl known_nil))))), (H.sub (.cons _ (.cons _ (.cons_cons _ .slnil))) .slnil (.cons_cons _ .slnil)), rfl⟩
      · rintro σ S e ⟨hw336, hk, H, rfl⟩
        replace h := hOy335
        refine KX.of_known hk ?_
        refine KX.seq_n ?_
        refine WC.region ?_
        refine WO.step (v := (.int .i64 x268)) rfl (nz rfl rfl) ?_
        refine WO.step (v := (.int .i64 (ad .i64 x268 1))) rfl (nz rfl rfl) ?_
        refine WO.step (v := (.int .i64 (ad .i64 x268 1))) rfl (nz rfl rfl) ?_
        refine WO.nil ?_
        refine KX.seq_n ?_
        exact ih h v263 (hw336) (encSl e_Api_CSN y335.1) ((isSl_enc _ _)) (known_cons rfl (known_cons rfl (known_cons rfl (known_cons rfl (known_cons rfl known_nil))))) (H.sub (.cons_cons _ .slnil) .slnil (.cons_cons _ .slnil))
    · refine WC.condF rfl hc369 ?_
      refine WC.exit ?_
      refine KX.seq_x ?_
      refine KX.seq_x ?_
      obtain rfl := Option.some.inj h
      exact hbrk v267 (hv267) v263 (hv263) (known_cons rfl (known_cons rfl (known_cons rfl (known_cons rfl known_nil)))) (H.sub (.cons_cons _ .slnil) .slnil (.cons_cons _ .slnil))
theorem l8_L4 {k : Nat} {a549 : Sl Api_CSN} {a550 : Sl Api_CSN} {a554 : Api_CSN} {S0 : List SObj} {R : List Nat} {K : KX} {i378 : Nat} {i1 : Nat} (hi378 : S0.length ≤ i378) (hi1 : S0.length ≤ i1) {v548 : PV} (hv548 : IsArr 3 a549 v548) {v551 : PV} (hv551 : IsSl e_Api_CSN a550 v551)  {o : Out Bool (Int × Api_CSN)}
    (hret : ∀ r : Bool, o = .ret r → ∀ {σ' : Nat → PV} {S' : List SObj}, Known [(4, (.bool r))] σ' → Hp S0 R S' [] [] [] → K .ret σ' S' false)
    (hbrk : ∀ y : Int × Api_CSN, o = .brk y → ∀ {σ' : Nat → PV} {S' : List SObj}, Known [(3, (.ptr i1 0)), (5, v551), (6, v548), (11, (.ptr i378 0)), (12, (.int .i64 y.1))] σ' → Hp S0 R S' [(i378, .cells [(.int .i64 y.2.Time), (.int .i64 y.2.Seq), (.int .i64 y.2.Rep)]), (i1, .cells [(.int .i64 a554.Time), (.int .i64 a554.Seq), (.int .i64 a554.Rep)])] [] [(v548, rowO e_Api_CSN 3 false a549)] → K (.exit 4) σ' S' false) :
    ∀ {n : Nat} {x552 : Int} {b553 : Api_CSN}, F8_L4 k a549 a550 a554 n x552 b553 = some o → ∀ {σ : Nat → PV} {S : List SObj}, Known [(3, (.ptr i1 0)), (5, v551), (6, v548), (11, (.ptr i378 0)), (12, (.int .i64 x552))] σ → Hp S0 R S [(i378, .cells [(.int .i64 b553.Time), (.int .i64 b553.Seq), (.int .i64 b553.Rep)]), (i1, .cells [(.int .i64 a554.Time), (.int .i64 a554.Seq), (.int .i64 a554.Rep)])] [] [(v548, rowO e_Api_CSN 3 false a549)] → WC env ⟨199, S0.length⟩ (.loop pc8L4) σ S false K := by
  intro n
  induction n with
  | zero => intro _ _ h; cases h
  | succ n ih =>
    intro x552 b553 h σ S  hk H
    rw [F8_L4] at h
    refine WC.loop ?_
    refine WC.of_known hk ?_
    refine WC.seq ?_
    refine WC.seqR ?_
    refine WO.step (v := (.int .i64 x552)) rfl (nz rfl rfl) ?_
    refine WO.step (v := (.bool (decide (x552 < 3)))) rfl (nz rfl rfl) ?_
    refine WO.nil ?_
    rcases iteS h with ⟨hc632, h⟩ | ⟨hc632, h⟩
    · refine WC.condT rfl hc632 ?_
      refine WC.skip ?_
      refine KX.seq_n ?_
      refine WC.seq ?_
      refine WC.block ?_
      refine WC.seq ?_
      refine WC.seq ?_
      refine WC.draw ?_
      refine WH.step (v := v551) rfl (nz rfl rfl) rfl rfl ?_
      refine WH.step (v := (.int .i64 x552)) rfl (nz rfl rfl) rfl rfl ?_
      obtain ⟨y594, hy594, h⟩ := bindS h
      refine WH.step (v := (.iptr [(.int .i64 y594.Time), (.int .i64 y594.Seq), (.int .i64 y594.Rep)] 0)) rfl (nz rfl (stp_idxAddr rfl hv551 rfl rfl rfl hy594 (e_Api_CSN_cells _) rfl)) rfl rfl ?_
      refine WH.step (v := (.agg [(.int .i64 y594.Time), (.int .i64 y594.Seq), (.int .i64 y594.Rep)])) rfl (nz rfl rfl) rfl rfl ?_
      refine WH.step (v := (.int .i64 x552)) rfl (nz rfl rfl) rfl rfl ?_
      obtain ⟨y595, hy595, h⟩ := bindS h
      obtain ⟨i596, hi596⟩ := IsArr.id hv548
      refine WH.step (v := (.ptr i596 (Int.toNat x552 * 3 + 0))) rfl (nz rfl (stp_idxA (sz := 3) rfl hv548 rfl rfl rfl hy595 hi596)) rfl rfl ?_
      refine WH.step (v := (.agg [(.int .i64 y595.Time), (.int .i64 y595.Seq), (.int .i64 y595.Rep)])) rfl (nz rfl (stp_loadW rfl (H.getW 0 rfl hi596) hy595 (Nat.le_of_ble_eq_true rfl) rfl)) rfl rfl ?_
      refine WH.nil ?_
      refine WO.step (v := (.bool (!((y594.Time == y595.Time) && ((y594.Seq == y595.Seq) && ((y594.Rep == y595.Rep) && true)))))) rfl (nz rfl (stp_ne rfl rfl rfl rfl rfl)) ?_
      refine WO.nil ?_
      refine KX.seq_n ?_
      rcases iteS h with ⟨hc631, h⟩ | ⟨hc631, h⟩
      · refine WC.condT rfl hc631 ?_
        refine WC.seqR ?_
        refine WO.step (v := (.bool false)) rfl (nz rfl rfl) ?_
        refine WO.nil ?_
        refine WC.ret ?_
        refine KX.seq_r ?_
        refine KX.block_r ?_
        refine KX.seq_r ?_
        refine KX.seq_r ?_
        obtain rfl := Option.some.inj h
        exact hret _ rfl (known_cons rfl known_nil) (H.sub (.cons _ (.cons _ .slnil)) .slnil (.cons _ .slnil))
      · refine WC.condF rfl hc631 ?_
        refine WC.skip ?_
        refine KX.seq_n ?_
        refine WC.seq ?_
        refine WC.draw ?_
        refine WH.step (v := (.int .i64 x552)) rfl (nz rfl rfl) rfl rfl ?_
        obtain ⟨y598, hy598, h⟩ := bindS h
        obtain ⟨i599, hi599⟩ := IsArr.id hv548
        refine WH.step (v := (.ptr i599 (Int.toNat x552 * 3 + 0))) rfl (nz rfl (stp_idxA (sz := 3) rfl hv548 rfl rfl rfl hy598 hi599)) rfl rfl ?_
        refine WH.step (v := (.ptr i599 (Int.toNat x552 * 3 + 0))) rfl (nz rfl rfl) rfl rfl ?_
        refine WH.step (v := (.int .i64 y598.Time)) rfl (nz rfl (stp_loadW rfl (H.getW 0 rfl hi599) hy598 (Nat.le_of_ble_eq_true rfl) rfl)) rfl rfl ?_
        refine WH.step (v := (.ptr i378 0)) rfl (nz rfl rfl) rfl rfl ?_
        refine WH.step (v := (.int .i64 b553.Time)) rfl (nz rfl (stp_load rfl (H.get 0 rfl) rfl)) rfl rfl ?_
        refine WH.step (v := (.bool (decide (y598.Time < b553.Time)))) rfl (nz rfl rfl) rfl rfl ?_
        refine WH.step (v := (.bool (decide (y598.Time < b553.Time)))) rfl (nz rfl rfl) rfl rfl ?_
        obtain ⟨y610, hy610, hOy610⟩ := bindS h
        refine WD.split 3 (fun σ' S' e' => Known ([(3, (.ptr i1 0)), (5, v551), (6, v548), (11, (.ptr i378 0)), (12, (.int .i64 x552)), (140, (.bool y610))]) σ' ∧ Hp S0 R S' [(i378, .cells [(.int .i64 b553.Time), (.int .i64 b553.Seq), (.int .i64 b553.Rep)]), (i1, .cells [(.int .i64 a554.Time), (.int .i64 a554.Seq), (.int .i64 a554.Rep)])] [] [(v548, rowO e_Api_CSN 3 false a549)] ∧ e' = false) ?_ ?_
        · replace h := hy610
          cases hc620 : (decide (y598.Time < b553.Time))
          · replace h := iteF h hc620
            refine WH.go0 rfl rfl ?_
            refine WH.step (v := (.int .i64 x552)) rfl (nz rfl rfl) rfl rfl ?_
            refine WH.go0 rfl rfl ?_
            obtain ⟨y611, hy611, h⟩ := bindS h
            obtain ⟨i612, hi612⟩ := IsArr.id hv548
            refine WH.step (v := (.ptr i612 (Int.toNat x552 * 3 + 0))) rfl (nz rfl (stp_idxA (sz := 3) rfl hv548 rfl rfl rfl hy611 hi612)) rfl rfl ?_
            refine WH.go0 rfl rfl ?_
            refine WH.step (v := (.ptr i612 (Int.toNat x552 * 3 + 0))) rfl (nz rfl rfl) rfl rfl ?_
            refine WH.go0 rfl rfl ?_
            refine WH.step (v := (.int .i64 y611.Time)) rfl (nz rfl (stp_loadW rfl (H.getW 0 rfl hi612) hy611 (Nat.le_of_ble_eq_true rfl) rfl)) rfl rfl ?_
            refine WH.go0 rfl rfl ?_
            refine WH.step (v := (.ptr i378 0)) rfl (nz rfl rfl) rfl rfl ?_
            refine WH.go0 rfl rfl ?_
            refine WH.step (v := (.int .i64 b553.Time)) rfl (nz rfl (stp_load rfl (H.get 0 rfl) rfl)) rfl rfl ?_
            refine WH.go0 rfl rfl ?_
            refine WH.step (v := (.bool (y611.Time == b553.Time))) rfl (nz rfl rfl) rfl rfl ?_
            refine WH.go0 rfl rfl ?_
            refine WH.step (v := (.bool (y611.Time == b553.Time))) rfl (nz rfl rfl) rfl rfl ?_
            obtain ⟨y616, hy616, hOy616⟩ := bindS h
            refine WD.split 2 (fun σ' S' e' => Known ([(3, (.ptr i1 0)), (5, v551), (6, v548), (11, (.ptr i378 0)), (12, (.int .i64 x552)), (123, (.bool false)), (139, (.bool y616))]) σ' ∧ Hp S0 R S' [(i378, .cells [(.int .i64 b553.Time), (.int .i64 b553.Seq), (.int .i64 b553.Rep)]), (i1, .cells [(.int .i64 a554.Time), (.int .i64 a554.Seq), (.int .i64 a554.Rep)])] [] [(v548, rowO e_Api_CSN 3 false a549)] ∧ e' = false) ?_ ?_
            · replace h := hy616
              cases hc619 : (y611.Time == b553.Time)
              · replace h := iteF h hc619
                refine WH.by rfl rfl rfl ?_
                refine WH.by rfl rfl rfl ?_
                refine WH.by rfl rfl rfl ?_
                refine WH.by rfl rfl rfl ?_
                refine WH.by rfl rfl rfl ?_
                refine WH.by rfl rfl rfl ?_
                refine WH.nil ?_
                refine WO.by rfl rfl rfl ?_
                refine WO.go0 rfl rfl ?_
                refine WO.step (v := (.bool false)) rfl (nz rfl rfl) ?_
                refine WO.nil ?_
                obtain rfl := Option.some.inj h
                exact ⟨(known_cons rfl (known_cons rfl (known_cons rfl (known_cons rfl (known_cons rfl (known_cons rfl (known_cons rfl known_nil))))))), (H.sub (.cons_cons _ (.cons_cons _ .slnil)) .slnil (.cons_cons _ .slnil)), rfl⟩
              · replace h := iteT h hc619
                refine WH.go0 rfl rfl ?_
                refine WH.step (v := (.int .i64 x552)) rfl (nz rfl rfl) rfl rfl ?_
                refine WH.go0 rfl rfl ?_
                obtain ⟨y617, hy617, h⟩ := bindS h
                obtain ⟨i618, hi618⟩ := IsArr.id hv548
                refine WH.step (v := (.ptr i618 (Int.toNat x552 * 3 + 0))) rfl (nz rfl (stp_idxA (sz := 3) rfl hv548 rfl rfl rfl hy617 hi618)) rfl rfl ?_
                refine WH.go0 rfl rfl ?_
                refine WH.step (v := (.ptr i618 (Int.toNat x552 * 3 + 1))) rfl (nz rfl rfl) rfl rfl ?_
                refine WH.go0 rfl rfl ?_
                refine WH.step (v := (.int .i64 y617.Seq)) rfl (nz rfl (stp_loadW rfl (H.getW 0 rfl hi618) hy617 (Nat.le_of_ble_eq_true rfl) rfl)) rfl rfl ?_
                refine WH.go0 rfl rfl ?_
                refine WH.step (v := (.ptr i378 1)) rfl (nz rfl rfl) rfl rfl ?_
                refine WH.go0 rfl rfl ?_
                refine WH.step (v := (.int .i64 b553.Seq)) rfl (nz rfl (stp_load rfl (H.get 0 rfl) rfl)) rfl rfl ?_
                refine WH.nil ?_
                refine WO.go0 rfl rfl ?_
                refine WO.step (v := (.bool (decide (y617.Seq < b553.Seq)))) rfl (nz rfl rfl) ?_
                refine WO.go0 rfl rfl ?_
                refine WO.step (v := (.bool (decide (y617.Seq < b553.Seq)))) rfl (nz rfl rfl) ?_
                refine WO.nil ?_
                obtain rfl := Option.some.inj h
                exact ⟨(known_cons rfl (known_cons rfl (known_cons rfl (known_cons rfl (known_cons rfl (known_cons rfl (known_cons rfl known_nil))))))), (H.sub (.cons_cons _ (.cons_cons _ .slnil)) .slnil (.cons_cons _ .slnil)), rfl⟩
            · rintro σ S e ⟨hk, H, rfl⟩
              replace h := hOy616
              refine WO.of_known hk ?_
              refine WO.step (v := (.bool y616)) rfl (nz rfl rfl) ?_
              refine WO.nil ?_
              obtain rfl := Option.some.inj h
              exact ⟨(known_cons rfl (known_cons rfl (known_cons rfl (known_cons rfl (known_cons rfl (known_cons rfl known_nil)))))), (H.sub (.cons_cons _ (.cons_cons _ .slnil)) .slnil (.cons_cons _ .slnil)), rfl⟩
          · replace h := iteT h hc620
            refine WH.by rfl rfl rfl ?_
            refine WH.by rfl rfl rfl ?_
            refine WH.by rfl rfl rfl ?_
            refine WH.by rfl rfl rfl ?_
            refine WH.by rfl rfl rfl ?_
            refine WH.by rfl rfl rfl ?_
            refine WH.by rfl rfl rfl ?_
            refine WH.by rfl rfl rfl ?_
            refine WH.by0 rfl rfl ?_
            refine WH.by0 rfl rfl ?_
            refine WH.by0 rfl rfl ?_
            refine WH.by0 rfl rfl ?_
            refine WH.by0 rfl rfl ?_
            refine WH.by0 rfl rfl ?_
            refine WH.nil ?_
            refine WO.by0 rfl rfl ?_
            refine WO.by rfl rfl rfl ?_
            refine WO.step (v := (.bool true)) rfl (nz rfl rfl) ?_
            refine WO.nil ?_
            obtain rfl := Option.some.inj h
            exact ⟨(known_cons rfl (known_cons rfl (known_cons rfl (known_cons rfl (known_cons rfl (known_cons rfl known_nil)))))), (H.sub (.cons_cons _ (.cons_cons _ .slnil)) .slnil (.cons_cons _ .slnil)), rfl⟩
        · rintro σ S e ⟨hk, H, rfl⟩
          replace h := hOy610
          refine WO.of_known hk ?_
          refine WO.nil ?_
          refine KX.seq_n ?_
          obtain ⟨y627, hy627, hOy627⟩ := bindS h
          refine WC.join (fun σ' S' e' => Known ([(3, (.ptr i1 0)), (5, v551), (6, v548), (11, (.ptr i378 0)), (12, (.int .i64 x552))]) σ' ∧ Hp S0 R S' [(i378, .cells [(.int .i64 y627.Time), (.int .i64 y627.Seq), (.int .i64 y627.Rep)]), (i1, .cells [(.int .i64 a554.Time), (.int .i64 a554.Seq), (.int .i64 a554.Rep)])] [] [(v548, rowO e_Api_CSN 3 false a549)] ∧ e' = false) ?_ ?_
          · replace h := hy627
            rcases iteS h with ⟨hc630, h⟩ | ⟨hc630, h⟩
            · refine WC.condT rfl hc630 ?_
              refine WC.region ?_
              refine WO.step (v := (.int .i64 x552)) rfl (nz rfl rfl) ?_
              obtain ⟨y628, hy628, h⟩ := bindS h
              obtain ⟨i629, hi629⟩ := IsArr.id hv548
              refine WO.step (v := (.ptr i629 (Int.toNat x552 * 3 + 0))) rfl (nz rfl (stp_idxA (sz := 3) rfl hv548 rfl rfl rfl hy628 hi629)) ?_
              refine WO.step (v := (.agg [(.int .i64 y628.Time), (.int .i64 y628.Seq), (.int .i64 y628.Rep)])) rfl (nz rfl (stp_loadW rfl (H.getW 0 rfl hi629) hy628 (Nat.le_of_ble_eq_true rfl) rfl)) ?_
              refine WO.store 0 rfl rfl H rfl rfl rfl rfl rfl rfl rfl (Nat.le_of_ble_eq_true rfl) rfl (own_e hi378) ?_
              intro S H
              replace H : Hp S0 R _ [(i378, .cells [(.int .i64 y628.Time), (.int .i64 y628.Seq), (.int .i64 y628.Rep)]), (i1, .cells [(.int .i64 a554.Time), (.int .i64 a554.Seq), (.int .i64 a554.Rep)])] [] [(v548, rowO e_Api_CSN 3 false a549)] := H
              refine WO.nil ?_
              refine KX.seq_n ?_
              obtain rfl := Option.some.inj h
              exact ⟨(known_cons rfl (known_cons rfl (known_cons rfl (known_cons rfl (known_cons rfl known_nil))))), (H.sub (.cons_cons _ (.cons_cons _ .slnil)) .slnil (.cons_cons _ .slnil)), rfl⟩
            · refine WC.condF rfl hc630 ?_
              refine WC.skip ?_
              refine KX.seq_n ?_
              obtain rfl := Option.some.inj h
              exact ⟨(known_cons rfl (known_cons rfl (known_cons rfl (known_cons rfl (known_cons rfl known_nil))))), (H.sub (.cons_cons _ (.cons_cons _ .slnil)) .slnil (.cons_cons _ .slnil)), rfl⟩
          · rintro σ S e ⟨hk, H, rfl⟩
            replace h := hOy627
            refine KX.of_known hk ?_
            refine KX.block_n ?_
            refine KX.seq_n ?_
            refine WC.region ?_
            refine WO.step (v := (.int .i64 x552)) rfl (nz rfl rfl) ?_
            refine WO.step (v := (.int .i64 (ad .i64 x552 1))) rfl (nz rfl rfl) ?_
            refine WO.step (v := (.int .i64 (ad .i64 x552 1))) rfl (nz rfl rfl) ?_
            refine WO.nil ?_
            refine KX.seq_n ?_
            exact ih h  (known_cons rfl (known_cons rfl (known_cons rfl (known_cons rfl (known_cons rfl known_nil))))) (H.sub (.cons_cons _ (.cons_cons _ .slnil)) .slnil (.cons_cons _ .slnil))
    · refine WC.condF rfl hc632 ?_
      refine WC.exit ?_
      refine KX.seq_x ?_
      refine KX.seq_x ?_
      obtain rfl := Option.some.inj h
      exact hbrk _ rfl  (known_cons rfl (known_cons rfl (known_cons rfl (known_cons rfl (known_cons rfl known_nil))))) (H.sub (.cons_cons _ (.cons_cons _ .slnil)) .slnil (.cons_cons _ .slnil))
theorem s8 : ∀ k : Nat, ∀ {a0 : Sl Api_CSN} {a1 : Api_CSN} {r : Bool}, F8 k a0 a1 = some r → ∀ {vs : List PV}, vs.map PV.strip = [(encSl e_Api_CSN a0), (.agg [(.int .i64 a1.Time), (.int .i64 a1.Seq), (.int .i64 a1.Rep)])] → ∀ S : List SObj, evw env 8 vs S = some ((.bool r), S, false) := by
  intro k a0 a1 r h vs ha S
  unfold F8 at h
  refine evw_pureW (pf := fn8) rfl rfl ha (Nat.le_of_ble_eq_true rfl) (by simp [PV.clean, cleanL, clean_encSl clean_Api_CSN]) rfl ?_
  refine WB.of (pf := fn8) rfl ?_
  have H := Hp.start []
  refine WC.seqR ?_
  refine WO.box' rfl rfl rfl rfl rfl H ?_
  intro i1 S hi1 H
  refine WO.step (v := (.bool false)) rfl (nz rfl rfl) ?_
  refine WO.nil ?_
  refine WC.seq ?_
  refine WC.seqR ?_
  obtain ⟨y2, hy2, h⟩ := bindS h
  refine WO.step (v := (.bool y2)) rfl (nz rfl (stp_call (vs := []) rfl rfl (s18 _ hy2 rfl _))) ?_
  refine WO.step (v := (.bool (!y2))) rfl (nz rfl rfl) ?_
  refine WO.nil ?_
  rcases iteS h with ⟨hc692, h⟩ | ⟨hc692, h⟩
  · refine WC.condT rfl hc692 ?_
    refine WC.seqR ?_
    refine WO.step (v := (.bool false)) rfl (nz rfl rfl) ?_
    refine WO.nil ?_
    refine WC.ret ?_
    refine KX.seq_r ?_
    obtain rfl := Option.some.inj h
    refine KB.ret (vs := [(.bool false)]) (res_tmp rfl res_nil) (fl_cons' rfl rfl) ?_
    exact rfl
  · refine WC.condF rfl hc692 ?_
    refine WC.skip ?_
    refine KX.seq_n ?_
    refine WC.seq ?_
    refine WC.seqR ?_
    refine WO.step (v := (encSl e_Api_CSN a0)) rfl (nz rfl rfl) ?_
    refine WO.step (v := (.int .i64 (Sl.len a0))) rfl (nz rfl (stp_len rfl (isSl_enc _ _) rfl)) ?_
    refine WO.step (v := (.bool (decide ((Sl.len a0) > 30)))) rfl (nz rfl rfl) ?_
    refine WO.nil ?_
    rcases iteS h with ⟨hc691, h⟩ | ⟨hc691, h⟩
    · refine WC.condT rfl hc691 ?_
      refine WC.seqR ?_
      refine WO.step (v := (.bool true)) rfl (nz rfl rfl) ?_
      refine WO.nil ?_
      refine WC.ret ?_
      refine KX.seq_r ?_
      obtain rfl := Option.some.inj h
      refine KB.ret (vs := [(.bool true)]) (res_tmp rfl res_nil) (fl_cons' rfl rfl) ?_
      exact rfl
    · refine WC.condF rfl hc691 ?_
      refine WC.skip ?_
      refine KX.seq_n ?_
      refine WC.seqR ?_
      obtain ⟨y5, hy5, h⟩ := bindS h
      refine WO.step (v := (encSl e_Api_CSN y5)) rfl (nz rfl (stp_call (vs := [(.int .i64 3)]) rfl rfl (s20 _ hy5 rfl _))) ?_
      refine WO.step (v := (encSl e_Api_CSN y5)) rfl (nz rfl rfl) ?_
      refine WO.nil ?_
      refine WC.seqR ?_
      refine WO.ex rfl (bzn rfl (born_arr (f := e_Api_CSN) (z := (Api_CSN.mk 0 0 0)) (ti := ty61) (ei := ty50) rfl rfl rfl rfl rfl H)) ?_
      rintro v6 S ⟨hv6, H⟩
      replace H : Hp [] [] _ [(i1, .cells [(.int .i64 a1.Time), (.int .i64 a1.Seq), (.int .i64 a1.Rep)])] [] [(v6, rowO e_Api_CSN 3 false (some (List.replicate 3 (Api_CSN.mk 0 0 0))))] := H
      refine WO.nil ?_
      refine WC.seq ?_
      refine WC.seqR ?_
      refine WO.step (v := (.int .i64 0)) rfl (nz rfl rfl) ?_
      refine WO.nil ?_
      obtain ⟨y49, hy49, hOy49⟩ := bindS h
      refine WC.block ?_
      refine l8_L0 hi1 ?_ hy49 v6 (hv6) (known_cons rfl (known_cons rfl (known_cons rfl (known_cons rfl (known_cons rfl known_nil))))) (H.sub (.cons_cons _ .slnil) .slnil (.cons_cons _ .slnil))
      · intro σ S v50 hv50 hk H; replace h := hOy49
        refine KX.of_known hk ?_
        refine KX.block_x ?_
        refine KX.seq_n ?_
        refine WC.seq ?_
        refine WC.seqR ?_
        refine WO.step (v := (.int .i64 0)) rfl (nz rfl rfl) ?_
        refine WO.nil ?_
        obtain ⟨y372, hy372, hOy372⟩ := bindS h
        refine WC.block ?_
        refine l8_L2 hi1 ?_ hy372 v50 (hv50) (encSl e_Api_CSN y5) ((isSl_enc _ _)) (known_cons rfl (known_cons rfl (known_cons rfl (known_cons rfl (known_cons rfl known_nil))))) (H.sub (.cons_cons _ .slnil) .slnil (.cons_cons _ .slnil))
        · intro σ S v373 hv373 v374 hv374 hk H; replace h := hOy372
          refine KX.of_known hk ?_
          refine KX.block_x ?_
          refine KX.seq_n ?_
          refine WC.seq ?_
          refine WC.seqR ?_
          refine WO.step (v := v373) rfl (nz rfl rfl) ?_
          refine WO.step (v := (.int .i64 (Sl.len y372.1))) rfl (nz rfl (stp_len rfl hv373 rfl)) ?_
          refine WO.step (v := (.bool ((Sl.len y372.1) != 3))) rfl (nz rfl rfl) ?_
          refine WO.nil ?_
          rcases iteS h with ⟨hc690, h⟩ | ⟨hc690, h⟩
          · refine WC.condT rfl hc690 ?_
            refine WC.seqR ?_
            refine WO.step (v := (.bool false)) rfl (nz rfl rfl) ?_
            refine WO.nil ?_
            refine WC.ret ?_
            refine KX.seq_r ?_
            obtain rfl := Option.some.inj h
            refine KB.ret (vs := [(.bool false)]) (res_tmp rfl res_nil) (fl_cons' rfl rfl) ?_
            exact rfl
          · refine WC.condF rfl hc690 ?_
            refine WC.skip ?_
            refine KX.seq_n ?_
            refine WC.seqR ?_
            obtain ⟨y376, hy376, h⟩ := bindS h
            obtain ⟨i377, hi377⟩ := IsArr.id hv374
            refine WO.step (v := (.ptr i377 (Int.toNat 0 * 3 + 0))) rfl (nz rfl (stp_idxA (sz := 3) rfl hv374 rfl rfl rfl hy376 hi377)) ?_
            refine WO.step (v := (.agg [(.int .i64 y376.Time), (.int .i64 y376.Seq), (.int .i64 y376.Rep)])) rfl (nz rfl (stp_loadW rfl (H.getW 0 rfl hi377) hy376 (Nat.le_of_ble_eq_true rfl) rfl)) ?_
            refine WO.alloc' (ti := ty50) rfl rfl rfl rfl H ?_
            intro i378 S hi378 H
            refine WO.store 0 rfl rfl H rfl rfl rfl rfl rfl rfl rfl (Nat.le_of_ble_eq_true rfl) rfl (own_e hi378) ?_
            intro S H
            replace H : Hp [] [] _ [(i378, .cells [(.int .i64 y376.Time), (.int .i64 y376.Seq), (.int .i64 y376.Rep)]), (i1, .cells [(.int .i64 a1.Time), (.int .i64 a1.Seq), (.int .i64 a1.Rep)])] [] [(v374, rowO e_Api_CSN 3 false y372.2.2)] := H
            refine WO.nil ?_
            refine WC.seq ?_
            refine WC.seqR ?_
            refine WO.step (v := (.int .i64 0)) rfl (nz rfl rfl) ?_
            refine WO.nil ?_
            obtain ⟨y633, hy633, hOy633⟩ := bindS h
            refine WC.block ?_
            refine l8_L4 hi378 hi1 (hv374) (hv373) ?_ ?_ hy633  (known_cons rfl (known_cons rfl (known_cons rfl (known_cons rfl (known_cons rfl known_nil))))) (H.sub (.cons_cons _ (.cons_cons _ .slnil)) .slnil (.cons_cons _ .slnil))
            · intro y633r he σ S  hk H; subst he; replace h := hOy633; dsimp only at h
              refine KX.of_known hk ?_
              refine KX.block_r ?_
              refine KX.seq_r ?_
              obtain rfl := Option.some.inj h
              refine KB.ret (vs := [(.bool y633r)]) (res_tmp rfl res_nil) (fl_cons' rfl rfl) ?_
              exact rfl
            · intro y633b he σ S  hk H; subst he; replace h := hOy633; dsimp only at h
              refine KX.of_known hk ?_
              refine KX.block_x ?_
              refine KX.seq_n ?_
              refine WC.seq ?_
              refine WC.draw ?_
              refine WH.step (v := (.ptr i1 2)) rfl (nz rfl rfl) rfl rfl ?_
              refine WH.step (v := (.int .i64 a1.Rep)) rfl (nz rfl (stp_load rfl (H.get 1 rfl) rfl)) rfl rfl ?_
              refine WH.step (v := (.bool (decide (a1.Rep ≥ 0)))) rfl (nz rfl rfl) rfl rfl ?_
              refine WH.step (v := (.bool (decide (a1.Rep ≥ 0)))) rfl (nz rfl rfl) rfl rfl ?_
              refine WH.split 4 (fun σ' => Known ([(3, (.ptr i1 0)), (5, v373), (6, v374), (11, (.ptr i378 0)), (151, (.bool ((decide (a1.Rep ≥ 0)) && (decide (a1.Rep < 3)))))]) σ') ?_ ?_
              · cases hc634 : (decide (a1.Rep ≥ 0))
                · skip
                  refine WH.by rfl rfl rfl ?_
                  refine WH.by rfl rfl rfl ?_
                  refine WH.by rfl rfl rfl ?_
                  refine WH.step (v := (.bool false)) rfl (nz rfl rfl) rfl rfl ?_
                  refine WH.nil ?_
                  exact (known_cons rfl (known_cons rfl (known_cons rfl (known_cons rfl (known_cons rfl known_nil)))))
                · skip
                  refine WH.go0 rfl rfl ?_
                  refine WH.step (v := (.ptr i1 2)) rfl (nz rfl rfl) rfl rfl ?_
                  refine WH.go0 rfl rfl ?_
                  refine WH.step (v := (.int .i64 a1.Rep)) rfl (nz rfl (stp_load rfl (H.get 1 rfl) rfl)) rfl rfl ?_
                  refine WH.go0 rfl rfl ?_
                  refine WH.step (v := (.bool (decide (a1.Rep < 3)))) rfl (nz rfl rfl) rfl rfl ?_
                  refine WH.step (v := (.bool (decide (a1.Rep < 3)))) rfl (nz rfl rfl) rfl rfl ?_
                  refine WH.nil ?_
                  exact (known_cons rfl (known_cons rfl (known_cons rfl (known_cons rfl (known_cons rfl known_nil)))))
              · intro σ hk
                refine WH.of_known hk ?_
                refine WH.step (v := (.bool ((decide (a1.Rep ≥ 0)) && (decide (a1.Rep < 3))))) rfl (nz rfl rfl) rfl rfl ?_
                obtain ⟨y659, hy659, hOy659⟩ := bindS h
                refine WD.split 4 (fun σ' S' e' => Known ([(3, (.ptr i1 0)), (5, v373), (11, (.ptr i378 0)), (187, (.bool y659))]) σ' ∧ Hp [] [] S' [(i378, .cells [(.int .i64 y633b.2.Time), (.int .i64 y633b.2.Seq), (.int .i64 y633b.2.Rep)]), (i1, .cells [(.int .i64 a1.Time), (.int .i64 a1.Seq), (.int .i64 a1.Rep)])] [] [(v374, rowO e_Api_CSN 3 false y372.2.2)] ∧ e' = false) ?_ ?_
                · replace h := hy659
                  cases hc683 : ((decide (a1.Rep ≥ 0)) && (decide (a1.Rep < 3)))
                  · replace h := iteF h hc683
                    refine WH.by rfl rfl rfl ?_
                    refine WH.by rfl rfl rfl ?_
                    refine WH.by rfl rfl rfl ?_
                    refine WH.by rfl rfl rfl ?_
                    refine WH.by rfl rfl rfl ?_
                    refine WH.by rfl rfl rfl ?_
                    refine WH.by rfl rfl rfl ?_
                    refine WH.by rfl rfl rfl ?_
                    refine WH.by rfl rfl rfl ?_
                    refine WH.by rfl rfl rfl ?_
                    refine WH.by rfl rfl rfl ?_
                    refine WH.by0 rfl rfl ?_
                    refine WH.by0 rfl rfl ?_
                    refine WH.by0 rfl rfl ?_
                    refine WH.by0 rfl rfl ?_
                    refine WH.by0 rfl rfl ?_
                    refine WH.by0 rfl rfl ?_
                    refine WH.by0 rfl rfl ?_
                    refine WH.by0 rfl rfl ?_
                    refine WH.by0 rfl rfl ?_
                    refine WH.by0 rfl rfl ?_
                    refine WH.by0 rfl rfl ?_
                    refine WH.by0 rfl rfl ?_
                    refine WH.by0 rfl rfl ?_
                    refine WH.by0 rfl rfl ?_
                    refine WH.by0 rfl rfl ?_
                    refine WH.by0 rfl rfl ?_
                    refine WH.by0 rfl rfl ?_
                    refine WH.by0 rfl rfl ?_
                    refine WH.by0 rfl rfl ?_
                    refine WH.by0 rfl rfl ?_
                    refine WH.nil ?_
                    refine WO.by0 rfl rfl ?_
                    refine WO.by0 rfl rfl ?_
                    refine WO.by rfl rfl rfl ?_
                    refine WO.step (v := (.bool false)) rfl (nz rfl rfl) ?_
                    refine WO.nil ?_
                    obtain rfl := Option.some.inj h
                    exact ⟨(known_cons rfl (known_cons rfl (known_cons rfl (known_cons rfl known_nil)))), (H.sub (.cons_cons _ (.cons_cons _ .slnil)) .slnil (.cons_cons _ .slnil)), rfl⟩
                  · replace h := iteT h hc683
                    refine WH.go0 rfl rfl ?_
                    refine WH.step (v := (.ptr i1 0)) rfl (nz rfl rfl) rfl rfl ?_
                    refine WH.go0 rfl rfl ?_
                    refine WH.step (v := (.int .i64 a1.Time)) rfl (nz rfl (stp_load rfl (H.get 1 rfl) rfl)) rfl rfl ?_
                    refine WH.go0 rfl rfl ?_
                    refine WH.step (v := (.ptr i1 2)) rfl (nz rfl rfl) rfl rfl ?_
                    refine WH.go0 rfl rfl ?_
                    refine WH.step (v := (.int .i64 a1.Rep)) rfl (nz rfl (stp_load rfl (H.get 1 rfl) rfl)) rfl rfl ?_
                    refine WH.go0 rfl rfl ?_
                    refine WH.step (v := (.int .i64 (imin a1.Rep 2))) rfl (nz rfl rfl) rfl rfl ?_
                    refine WH.go0 rfl rfl ?_
                    refine WH.step (v := (.int .i64 (imax 0 (imin a1.Rep 2)))) rfl (nz rfl rfl) rfl rfl ?_
                    refine WH.go0 rfl rfl ?_
                    obtain ⟨y660, hy660, h⟩ := bindS h
                    obtain ⟨i661, hi661⟩ := IsArr.id hv374
                    refine WH.step (v := (.ptr i661 (Int.toNat (imax 0 (imin a1.Rep 2)) * 3 + 0))) rfl (nz rfl (stp_idxA (sz := 3) rfl hv374 rfl rfl rfl hy660 hi661)) rfl rfl ?_
                    refine WH.go0 rfl rfl ?_
                    refine WH.step (v := (.ptr i661 (Int.toNat (imax 0 (imin a1.Rep 2)) * 3 + 0))) rfl (nz rfl rfl) rfl rfl ?_
                    refine WH.go0 rfl rfl ?_
                    refine WH.step (v := (.int .i64 y660.Time)) rfl (nz rfl (stp_loadW rfl (H.getW 0 rfl hi661) hy660 (Nat.le_of_ble_eq_true rfl) rfl)) rfl rfl ?_
                    refine WH.go0 rfl rfl ?_
                    refine WH.step (v := (.bool (decide (a1.Time < y660.Time)))) rfl (nz rfl rfl) rfl rfl ?_
                    refine WH.go0 rfl rfl ?_
                    refine WH.step (v := (.bool (decide (a1.Time < y660.Time)))) rfl (nz rfl rfl) rfl rfl ?_
                    obtain ⟨y672, hy672, hOy672⟩ := bindS h
                    refine WD.split 3 (fun σ' S' e' => Known ([(3, (.ptr i1 0)), (5, v373), (11, (.ptr i378 0)), (152, (.bool true)), (186, (.bool y672))]) σ' ∧ Hp [] [] S' [(i378, .cells [(.int .i64 y633b.2.Time), (.int .i64 y633b.2.Seq), (.int .i64 y633b.2.Rep)]), (i1, .cells [(.int .i64 a1.Time), (.int .i64 a1.Seq), (.int .i64 a1.Rep)])] [] [(v374, rowO e_Api_CSN 3 false y372.2.2)] ∧ e' = false) ?_ ?_
                    · replace h := hy672
                      cases hc682 : (decide (a1.Time < y660.Time))
                      · replace h := iteF h hc682
                        refine WH.go0 rfl rfl ?_
                        refine WH.step (v := (.ptr i1 0)) rfl (nz rfl rfl) rfl rfl ?_
                        refine WH.go0 rfl rfl ?_
                        refine WH.step (v := (.int .i64 a1.Time)) rfl (nz rfl (stp_load rfl (H.get 1 rfl) rfl)) rfl rfl ?_
                        refine WH.go0 rfl rfl ?_
                        refine WH.step (v := (.ptr i1 2)) rfl (nz rfl rfl) rfl rfl ?_
                        refine WH.go0 rfl rfl ?_
                        refine WH.step (v := (.int .i64 a1.Rep)) rfl (nz rfl (stp_load rfl (H.get 1 rfl) rfl)) rfl rfl ?_
                        refine WH.go0 rfl rfl ?_
                        refine WH.step (v := (.int .i64 (imin a1.Rep 2))) rfl (nz rfl rfl) rfl rfl ?_
                        refine WH.go0 rfl rfl ?_
                        refine WH.step (v := (.int .i64 (imax 0 (imin a1.Rep 2)))) rfl (nz rfl rfl) rfl rfl ?_
                        refine WH.go0 rfl rfl ?_
                        obtain ⟨y673, hy673, h⟩ := bindS h
                        obtain ⟨i674, hi674⟩ := IsArr.id hv374
                        refine WH.step (v := (.ptr i674 (Int.toNat (imax 0 (imin a1.Rep 2)) * 3 + 0))) rfl (nz rfl (stp_idxA (sz := 3) rfl hv374 rfl rfl rfl hy673 hi674)) rfl rfl ?_
                        refine WH.go0 rfl rfl ?_
                        refine WH.step (v := (.ptr i674 (Int.toNat (imax 0 (imin a1.Rep 2)) * 3 + 0))) rfl (nz rfl rfl) rfl rfl ?_
                        refine WH.go0 rfl rfl ?_
                        refine WH.step (v := (.int .i64 y673.Time)) rfl (nz rfl (stp_loadW rfl (H.getW 0 rfl hi674) hy673 (Nat.le_of_ble_eq_true rfl) rfl)) rfl rfl ?_
                        refine WH.go0 rfl rfl ?_
                        refine WH.step (v := (.bool (a1.Time == y673.Time))) rfl (nz rfl rfl) rfl rfl ?_
                        refine WH.go0 rfl rfl ?_
                        refine WH.step (v := (.bool (a1.Time == y673.Time))) rfl (nz rfl rfl) rfl rfl ?_
                        obtain ⟨y678, hy678, hOy678⟩ := bindS h
                        refine WD.split 2 (fun σ' S' e' => Known ([(3, (.ptr i1 0)), (5, v373), (11, (.ptr i378 0)), (152, (.bool true)), (163, (.bool false)), (185, (.bool y678))]) σ' ∧ Hp [] [] S' [(i378, .cells [(.int .i64 y633b.2.Time), (.int .i64 y633b.2.Seq), (.int .i64 y633b.2.Rep)]), (i1, .cells [(.int .i64 a1.Time), (.int .i64 a1.Seq), (.int .i64 a1.Rep)])] [] [(v374, rowO e_Api_CSN 3 false y372.2.2)] ∧ e' = false) ?_ ?_
                        · replace h := hy678
                          cases hc681 : (a1.Time == y673.Time)
                          · replace h := iteF h hc681
                            refine WH.by rfl rfl rfl ?_
                            refine WH.by rfl rfl rfl ?_
                            refine WH.by rfl rfl rfl ?_
                            refine WH.by rfl rfl rfl ?_
                            refine WH.by rfl rfl rfl ?_
                            refine WH.by rfl rfl rfl ?_
                            refine WH.by rfl rfl rfl ?_
                            refine WH.by rfl rfl rfl ?_
                            refine WH.by rfl rfl rfl ?_
                            refine WH.nil ?_
                            refine WO.by rfl rfl rfl ?_
                            refine WO.go0 rfl rfl ?_
                            refine WO.step (v := (.bool false)) rfl (nz rfl rfl) ?_
                            refine WO.nil ?_
                            obtain rfl := Option.some.inj h
                            exact ⟨(known_cons rfl (known_cons rfl (known_cons rfl (known_cons rfl (known_cons rfl (known_cons rfl known_nil)))))), (H.sub (.cons_cons _ (.cons_cons _ .slnil)) .slnil (.cons_cons _ .slnil)), rfl⟩
                          · replace h := iteT h hc681
                            refine WH.go0 rfl rfl ?_
                            refine WH.step (v := (.ptr i1 1)) rfl (nz rfl rfl) rfl rfl ?_
                            refine WH.go0 rfl rfl ?_
                            refine WH.step (v := (.int .i64 a1.Seq)) rfl (nz rfl (stp_load rfl (H.get 1 rfl) rfl)) rfl rfl ?_
                            refine WH.go0 rfl rfl ?_
                            refine WH.step (v := (.ptr i1 2)) rfl (nz rfl rfl) rfl rfl ?_
                            refine WH.go0 rfl rfl ?_
                            refine WH.step (v := (.int .i64 a1.Rep)) rfl (nz rfl (stp_load rfl (H.get 1 rfl) rfl)) rfl rfl ?_
                            refine WH.go0 rfl rfl ?_
                            refine WH.step (v := (.int .i64 (imin a1.Rep 2))) rfl (nz rfl rfl) rfl rfl ?_
                            refine WH.go0 rfl rfl ?_
                            refine WH.step (v := (.int .i64 (imax 0 (imin a1.Rep 2)))) rfl (nz rfl rfl) rfl rfl ?_
                            refine WH.go0 rfl rfl ?_
                            obtain ⟨y679, hy679, h⟩ := bindS h
                            obtain ⟨i680, hi680⟩ := IsArr.id hv374
                            refine WH.step (v := (.ptr i680 (Int.toNat (imax 0 (imin a1.Rep 2)) * 3 + 0))) rfl (nz rfl (stp_idxA (sz := 3) rfl hv374 rfl rfl rfl hy679 hi680)) rfl rfl ?_
                            refine WH.go0 rfl rfl ?_
                            refine WH.step (v := (.ptr i680 (Int.toNat (imax 0 (imin a1.Rep 2)) * 3 + 1))) rfl (nz rfl rfl) rfl rfl ?_
                            refine WH.go0 rfl rfl ?_
                            refine WH.step (v := (.int .i64 y679.Seq)) rfl (nz rfl (stp_loadW rfl (H.getW 0 rfl hi680) hy679 (Nat.le_of_ble_eq_true rfl) rfl)) rfl rfl ?_
                            refine WH.nil ?_
                            refine WO.go0 rfl rfl ?_
                            refine WO.step (v := (.bool (decide (a1.Seq ≤ y679.Seq)))) rfl (nz rfl rfl) ?_
                            refine WO.go0 rfl rfl ?_
                            refine WO.step (v := (.bool (decide (a1.Seq ≤ y679.Seq)))) rfl (nz rfl rfl) ?_
                            refine WO.nil ?_
                            obtain rfl := Option.some.inj h
                            exact ⟨(known_cons rfl (known_cons rfl (known_cons rfl (known_cons rfl (known_cons rfl (known_cons rfl known_nil)))))), (H.sub (.cons_cons _ (.cons_cons _ .slnil)) .slnil (.cons_cons _ .slnil)), rfl⟩
                        · rintro σ S e ⟨hk, H, rfl⟩
                          replace h := hOy678
                          refine WO.of_known hk ?_
                          refine WO.go0 rfl rfl ?_
                          refine WO.step (v := (.bool y678)) rfl (nz rfl rfl) ?_
                          refine WO.nil ?_
                          obtain rfl := Option.some.inj h
                          exact ⟨(known_cons rfl (known_cons rfl (known_cons rfl (known_cons rfl (known_cons rfl known_nil))))), (H.sub (.cons_cons _ (.cons_cons _ .slnil)) .slnil (.cons_cons _ .slnil)), rfl⟩
                      · replace h := iteT h hc682
                        refine WH.by rfl rfl rfl ?_
                        refine WH.by rfl rfl rfl ?_
                        refine WH.by rfl rfl rfl ?_
                        refine WH.by rfl rfl rfl ?_
                        refine WH.by rfl rfl rfl ?_
                        refine WH.by rfl rfl rfl ?_
                        refine WH.by rfl rfl rfl ?_
                        refine WH.by rfl rfl rfl ?_
                        refine WH.by rfl rfl rfl ?_
                        refine WH.by rfl rfl rfl ?_
                        refine WH.by rfl rfl rfl ?_
                        refine WH.by0 rfl rfl ?_
                        refine WH.by0 rfl rfl ?_
                        refine WH.by0 rfl rfl ?_
                        refine WH.by0 rfl rfl ?_
                        refine WH.by0 rfl rfl ?_
                        refine WH.by0 rfl rfl ?_
                        refine WH.by0 rfl rfl ?_
                        refine WH.by0 rfl rfl ?_
                        refine WH.by0 rfl rfl ?_
                        refine WH.nil ?_
                        refine WO.by0 rfl rfl ?_
                        refine WO.by rfl rfl rfl ?_
                        refine WO.go0 rfl rfl ?_
                        refine WO.step (v := (.bool true)) rfl (nz rfl rfl) ?_
                        refine WO.nil ?_
                        obtain rfl := Option.some.inj h
                        exact ⟨(known_cons rfl (known_cons rfl (known_cons rfl (known_cons rfl (known_cons rfl known_nil))))), (H.sub (.cons_cons _ (.cons_cons _ .slnil)) .slnil (.cons_cons _ .slnil)), rfl⟩
                    · rintro σ S e ⟨hk, H, rfl⟩
                      replace h := hOy672
                      refine WO.of_known hk ?_
                      refine WO.step (v := (.bool y672)) rfl (nz rfl rfl) ?_
                      refine WO.nil ?_
                      obtain rfl := Option.some.inj h
                      exact ⟨(known_cons rfl (known_cons rfl (known_cons rfl (known_cons rfl known_nil)))), (H.sub (.cons_cons _ (.cons_cons _ .slnil)) .slnil (.cons_cons _ .slnil)), rfl⟩
                · rintro σ S e ⟨hk, H, rfl⟩
                  replace h := hOy659
                  refine WO.of_known hk ?_
                  refine WO.step (v := (.bool y659)) rfl (nz rfl rfl) ?_
                  refine WO.nil ?_
                  refine KX.seq_n ?_
                  refine WC.seq ?_
                  refine WC.draw ?_
                  refine WH.step (v := v373) rfl (nz rfl rfl) rfl rfl ?_
                  refine WH.step (v := (.agg [(.int .i64 a1.Time), (.int .i64 a1.Seq), (.int .i64 a1.Rep)])) rfl (nz rfl (stp_load rfl (H.get 1 rfl) rfl)) rfl rfl ?_
                  obtain ⟨y684, hy684, h⟩ := bindS h
                  refine WH.step (v := (.bool y684)) rfl (nz (fz_tmp' hv373.frz (fz_tmp' rfl rfl)) (stp_call (vs := [v373, (.agg [(.int .i64 a1.Time), (.int .i64 a1.Seq), (.int .i64 a1.Rep)])]) rfl rfl (s32 _ hy684 (by simp only [hv373.strip, st_agg, List.map_cons, List.map_nil, st1_int, tupled, e_Api_CSN]) _))) rfl rfl ?_
                  refine WH.step (v := (.bool y659)) rfl (nz rfl rfl) rfl rfl ?_
                  refine WH.step (v := (.bool (y684 == y659))) rfl (nz rfl rfl) rfl rfl ?_
                  refine WH.step (v := (.bool (y684 == y659))) rfl (nz rfl rfl) rfl rfl ?_
                  obtain ⟨y687, hy687, hOy687⟩ := bindS h
                  refine WD.split 2 (fun σ' S' e' => Known ([(198, (.bool y687))]) σ' ∧ Hp [] [] S' [(i378, .cells [(.int .i64 y633b.2.Time), (.int .i64 y633b.2.Seq), (.int .i64 y633b.2.Rep)]), (i1, .cells [(.int .i64 a1.Time), (.int .i64 a1.Seq), (.int .i64 a1.Rep)])] [] [(v374, rowO e_Api_CSN 3 false y372.2.2)] ∧ e' = false) ?_ ?_
                  · replace h := hy687
                    cases hc689 : (y684 == y659)
                    · replace h := iteF h hc689
                      refine WH.by rfl rfl rfl ?_
                      refine WH.by rfl rfl rfl ?_
                      refine WH.by rfl rfl rfl ?_
                      refine WH.nil ?_
                      refine WO.by rfl rfl rfl ?_
                      refine WO.step (v := (.bool false)) rfl (nz rfl rfl) ?_
                      refine WO.nil ?_
                      obtain rfl := Option.some.inj h
                      exact ⟨(known_cons rfl known_nil), (H.sub (.cons_cons _ (.cons_cons _ .slnil)) .slnil (.cons_cons _ .slnil)), rfl⟩
                    · replace h := iteT h hc689
                      refine WH.go0 rfl rfl ?_
                      refine WH.step (v := v373) rfl (nz rfl rfl) rfl rfl ?_
                      refine WH.go0 rfl rfl ?_
                      obtain ⟨y688, hy688, h⟩ := bindS h
                      refine WH.step (v := (.agg [(.int .i64 y688.Time), (.int .i64 y688.Seq), (.int .i64 y688.Rep)])) rfl (nz (fz_tmp' hv373.frz rfl) (stp_call (vs := [v373]) rfl rfl (s34 _ hy688 (by simp only [hv373.strip, List.map_cons, List.map_nil, tupled]) _))) rfl rfl ?_
                      refine WH.go0 rfl rfl ?_
                      refine WH.step (v := (.agg [(.int .i64 y633b.2.Time), (.int .i64 y633b.2.Seq), (.int .i64 y633b.2.Rep)])) rfl (nz rfl (stp_load rfl (H.get 0 rfl) rfl)) rfl rfl ?_
                      refine WH.nil ?_
                      refine WO.go0 rfl rfl ?_
                      refine WO.step (v := (.bool ((y688.Time == y633b.2.Time) && ((y688.Seq == y633b.2.Seq) && ((y688.Rep == y633b.2.Rep) && true))))) rfl (nz rfl (stp_eq rfl rfl rfl rfl rfl)) ?_
                      refine WO.step (v := (.bool ((y688.Time == y633b.2.Time) && ((y688.Seq == y633b.2.Seq) && ((y688.Rep == y633b.2.Rep) && true))))) rfl (nz rfl rfl) ?_
                      refine WO.nil ?_
                      obtain rfl := Option.some.inj h
                      exact ⟨(known_cons rfl known_nil), (H.sub (.cons_cons _ (.cons_cons _ .slnil)) .slnil (.cons_cons _ .slnil)), rfl⟩
                  · rintro σ S e ⟨hk, H, rfl⟩
                    replace h := hOy687
                    refine WO.of_known hk ?_
                    refine WO.step (v := (.bool y687)) rfl (nz rfl rfl) ?_
                    refine WO.nil ?_
                    refine KX.seq_n ?_
                    refine WC.ret ?_
                    obtain rfl := Option.some.inj h
                    refine KB.ret (vs := [(.bool y687)]) (res_tmp rfl res_nil) (fl_cons' rfl rfl) ?_
                    exact rfl
end Go.Proofs.Ythcchjhieolflaa.M
