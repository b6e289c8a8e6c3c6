/- Part of the proof: the runs of functions on the abstract machine. -/
import Derived.Test.YthkjepoaddfoiaaPamM4
import Derived.Test.YthkjepoaddfoiaaFns
import Derived.Test.YthkjepoaddfoiaaFDe
namespace Go.Proofs.Ythkjepoaddfoiaa.M
open Go Go.Pam Go.RowKit Go.WideShapes
set_option maxRecDepth 4000
set_option linter.unusedVariables false
set_option linter.unusedSimpArgs false

def F9_L0 (rc0 : Api_Filter → Int → Option Bool) (k : Nat) (a28 : Int) (a30 : Api_Filter) : Nat → Int → Option (Out Bool Int)
 | 0, _ => none
 | n + 1, x29 =>
  if decide (x29 < (Sl.len a30.Subs)) then
  Option.bind (Sl.at? a30.Subs x29) fun y35 =>
  if decide ((Str.len y35) > 80) then
  some (Out.ret false)
  else
  F9_L0 rc0 k a28 a30 n (ad .i64 x29 1)
  else
  some (Out.brk x29)
def F9_L2 (rc0 : Api_Filter → Int → Option Bool) (k : Nat) (a65 : Int) (a67 : Api_Filter) : Nat → Int → Option (Out Bool Int)
 | 0, _ => none
 | n + 1, x66 =>
  if decide (x66 < (Sl.len a67.Kids)) then
  Option.bind (Sl.at? a67.Kids x66) fun y73 =>
  Option.bind (rc0 y73 (ad .i64 a65 1)) fun y74 =>
  if !y74 then
  some (Out.ret false)
  else
  F9_L2 rc0 k a65 a67 n (ad .i64 x66 1)
  else
  some (Out.brk x66)
def F9 : Nat → Api_Filter → Int → Option Bool
 | 0, _, _ => none
 | k + 1, a0, a1 =>
  if ((((decide (a1 > 12)) || (decide ((Sl.len a0.Kids) > 8))) || (decide ((Str.len a0.Attr) > 30))) || (decide ((Str.len a0.Value) > 80))) || (decide ((Sl.len a0.Subs) > 24)) then
  some false
  else
  Option.bind (F9_L0 (F9 k) k a1 a0 k 0) fun y39 =>
  match y39 with
  | .ret y39r => some y39r
  | .brk y39b =>
  Option.bind (F9_L2 (F9 k) k a1 a0 k 0) fun y78 =>
  match y78 with
  | .ret y78r => some y78r
  | .brk y78b =>
  some true
theorem l9_L0 {rc0 : Api_Filter → Int → Option Bool} (hrc0 : ∀ {a0 : Api_Filter} {a1 : Int} {r : Bool}, rc0 a0 a1 = some r → ∀ {vs : List PV}, vs.map PV.strip = [(.agg [(.int .i64 a0.Kind), (.str a0.Attr), (.str a0.Value), (encSl eS a0.Subs), (encSl e_Api_Filter a0.Kids)]), (.int .i64 a1)] → ∀ S : List SObj, evw env 9 vs S = some ((.bool r), S, false)) {k : Nat} {a28 : Int} {a30 : Api_Filter} {S0 : List SObj} {R : List Nat} {K : KX} {i1 : Nat} (hi1 : S0.length ≤ i1)  {o : Out Bool Int}
  (hret : ∀ r : Bool, o = .ret r → ∀ {σ' : Nat → PV} {S' : List SObj}, Known [(4, (.bool r))] σ' → Hp S0 R S' [] [] [] → K .ret σ' S' false)
  (hbrk : ∀ y : Int, o = .brk y → ∀ {σ' : Nat → PV} {S' : List SObj}, Known [(1, (.int .i64 a28)), (2, (.ptr i1 0))] σ' → Hp S0 R S' [(i1, .cells [(.int .i64 a30.Kind), (.str a30.Attr), (.str a30.Value), (encSl eS a30.Subs), (encSl e_Api_Filter a30.Kids)])] [] [] → K (.exit 0) σ' S' false) :
  ∀ {n : Nat} {x29 : Int}, F9_L0 rc0 k a28 a30 n x29 = some o → ∀ {σ : Nat → PV} {S : List SObj}, Known [(1, (.int .i64 a28)), (2, (.ptr i1 0)), (5, (.int .i64 x29))] σ → Hp S0 R S [(i1, .cells [(.int .i64 a30.Kind), (.str a30.Attr), (.str a30.Value), (encSl eS a30.Subs), (encSl e_Api_Filter a30.Kids)])] [] [] → WC env ⟨63, S0.length⟩ (.loop pc9L0) σ S false K := by
 intro n
 induction n with
 | zero => intro _ h; cases h
 | succ n ih =>
  intro x29 h σ S  hk H
  rw [F9_L0] at h
  refine WC.loop ?_
  refine WC.of_known hk ?_
  refine WC.seq ?_
  refine WC.seqR ?_
  refine WS (v := .int .i64 x29) rfl (nz rfl rfl) ?_
  refine WS (v := .ptr i1 3) rfl (nz rfl rfl) ?_
  refine WS (v := (encSl eS a30.Subs)) rfl (nz rfl (stp_load rfl (H.get 0 rfl) rfl)) ?_
  refine WS (v := (.int .i64 (Sl.len a30.Subs))) rfl (nz rfl (stp_len rfl (isSl_enc _ _) rfl)) ?_
  refine WS (v := (.bool (decide (x29 < (Sl.len a30.Subs))))) rfl (nz rfl rfl) ?_
  refine WO.nil ?_
  rcases iteS h with ⟨hc38, h⟩ | ⟨hc38, h⟩
  ·refine WC.condT rfl hc38 ?_
   refine WC.skip ?_
   refine KX.seq_n ?_
   refine WC.seq ?_
   refine WC.block ?_
   refine WC.seqR ?_
   refine WS (v := .ptr i1 3) rfl (nz rfl rfl) ?_
   refine WS (v := (encSl eS a30.Subs)) rfl (nz rfl (stp_load rfl (H.get 0 rfl) rfl)) ?_
   refine WS (v := .int .i64 x29) rfl (nz rfl rfl) ?_
   obtain ⟨y35, hy35, h⟩ := bindS h
   refine WS (v := (.iptr [(.str y35)] 0)) rfl (nz rfl (stp_idxAddr rfl (isSl_enc _ _) rfl rfl rfl hy35 rfl rfl)) ?_
   refine WS (v := .str y35) rfl (nz rfl rfl) ?_
   refine WS (v := (.int .i64 (Str.len y35))) rfl (nz rfl rfl) ?_
   refine WS (v := (.bool (decide ((Str.len y35) > 80)))) rfl (nz rfl rfl) ?_
   refine WO.nil ?_
   rcases iteS h with ⟨hc37, h⟩ | ⟨hc37, h⟩
   ·refine WC.condT rfl hc37 ?_
    refine WC.seqR ?_
    refine WS (v := .bool false) rfl (nz rfl rfl) ?_
    refine WO.nil ?_
    refine WC.ret ?_
    refine KX.block_r ?_
    refine KX.seq_r ?_
    refine KX.seq_r ?_
    obtain rfl := Option.some.inj h
    exact hret _ rfl (kc rfl known_nil) (H.sub (.cons _ .slnil) .slnil .slnil)
   ·refine WC.condF rfl hc37 ?_
    refine WC.skip ?_
    refine KX.block_n ?_
    refine KX.seq_n ?_
    refine WC.region ?_
    refine WS (v := .int .i64 x29) rfl (nz rfl rfl) ?_
    refine WS (v := (.int .i64 (ad .i64 x29 1))) rfl (nz rfl rfl) ?_
    refine WS (v := (.int .i64 (ad .i64 x29 1))) rfl (nz rfl rfl) ?_
    refine WO.nil ?_
    refine KX.seq_n ?_
    exact ih h  (kc rfl (kc rfl (kc rfl known_nil))) (H.sub (.cons_cons _ .slnil) .slnil .slnil)
  ·refine WC.condF rfl hc38 ?_
   refine WC.exit ?_
   refine KX.seq_x ?_
   refine KX.seq_x ?_
   obtain rfl := Option.some.inj h
   exact hbrk _ rfl  (kc rfl (kc rfl known_nil)) (H.sub (.cons_cons _ .slnil) .slnil .slnil)
theorem l9_L2 {rc0 : Api_Filter → Int → Option Bool} (hrc0 : ∀ {a0 : Api_Filter} {a1 : Int} {r : Bool}, rc0 a0 a1 = some r → ∀ {vs : List PV}, vs.map PV.strip = [(.agg [(.int .i64 a0.Kind), (.str a0.Attr), (.str a0.Value), (encSl eS a0.Subs), (encSl e_Api_Filter a0.Kids)]), (.int .i64 a1)] → ∀ S : List SObj, evw env 9 vs S = some ((.bool r), S, false)) {k : Nat} {a65 : Int} {a67 : Api_Filter} {S0 : List SObj} {R : List Nat} {K : KX} {i1 : Nat} (hi1 : S0.length ≤ i1)  {o : Out Bool Int}
  (hret : ∀ r : Bool, o = .ret r → ∀ {σ' : Nat → PV} {S' : List SObj}, Known [(4, (.bool r))] σ' → Hp S0 R S' [] [] [] → K .ret σ' S' false)
  (hbrk : ∀ y : Int, o = .brk y → ∀ {σ' : Nat → PV} {S' : List SObj}, Known [] σ' → Hp S0 R S' [(i1, .cells [(.int .i64 a67.Kind), (.str a67.Attr), (.str a67.Value), (encSl eS a67.Subs), (encSl e_Api_Filter a67.Kids)])] [] [] → K (.exit 2) σ' S' false) :
  ∀ {n : Nat} {x66 : Int}, F9_L2 rc0 k a65 a67 n x66 = some o → ∀ {σ : Nat → PV} {S : List SObj}, Known [(1, (.int .i64 a65)), (2, (.ptr i1 0)), (6, (.int .i64 x66))] σ → Hp S0 R S [(i1, .cells [(.int .i64 a67.Kind), (.str a67.Attr), (.str a67.Value), (encSl eS a67.Subs), (encSl e_Api_Filter a67.Kids)])] [] [] → WC env ⟨63, S0.length⟩ (.loop pc9L2) σ S false K := by
 intro n
 induction n with
 | zero => intro _ h; cases h
 | succ n ih =>
  intro x66 h σ S  hk H
  rw [F9_L2] at h
  refine WC.loop ?_
  refine WC.of_known hk ?_
  refine WC.seq ?_
  refine WC.seqR ?_
  refine WS (v := .int .i64 x66) rfl (nz rfl rfl) ?_
  refine WS (v := .ptr i1 4) rfl (nz rfl rfl) ?_
  refine WS (v := (encSl e_Api_Filter a67.Kids)) rfl (nz rfl (stp_load rfl (H.get 0 rfl) rfl)) ?_
  refine WS (v := (.int .i64 (Sl.len a67.Kids))) rfl (nz rfl (stp_len rfl (isSl_enc _ _) rfl)) ?_
  refine WS (v := (.bool (decide (x66 < (Sl.len a67.Kids))))) rfl (nz rfl rfl) ?_
  refine WO.nil ?_
  rcases iteS h with ⟨hc77, h⟩ | ⟨hc77, h⟩
  ·refine WC.condT rfl hc77 ?_
   refine WC.skip ?_
   refine KX.seq_n ?_
   refine WC.seq ?_
   refine WC.block ?_
   refine WC.seqR ?_
   refine WS (v := .ptr i1 4) rfl (nz rfl rfl) ?_
   refine WS (v := (encSl e_Api_Filter a67.Kids)) rfl (nz rfl (stp_load rfl (H.get 0 rfl) rfl)) ?_
   refine WS (v := .int .i64 x66) rfl (nz rfl rfl) ?_
   obtain ⟨y73, hy73, h⟩ := bindS h
   refine WS (v := (.iptr [(.int .i64 y73.Kind), (.str y73.Attr), (.str y73.Value), (encSl eS y73.Subs), (encSl e_Api_Filter y73.Kids)] 0)) rfl (nz rfl (stp_idxAddr rfl (isSl_enc _ _) rfl rfl rfl hy73 (e_Api_Filter_cells _) rfl)) ?_
   refine WS (v := (.agg [(.int .i64 y73.Kind), (.str y73.Attr), (.str y73.Value), (encSl eS y73.Subs), (encSl e_Api_Filter y73.Kids)])) rfl (nz rfl rfl) ?_
   refine WS (v := .int .i64 a65) rfl (nz rfl rfl) ?_
   refine WS (v := (.int .i64 (ad .i64 a65 1))) rfl (nz rfl rfl) ?_
   obtain ⟨y74, hy74, h⟩ := bindS h
   refine WS (v := .bool y74) rfl (nz rfl (stp_call (vs := [(.agg [(.int .i64 y73.Kind), (.str y73.Attr), (.str y73.Value), (encSl eS y73.Subs), (encSl e_Api_Filter y73.Kids)]), (.int .i64 (ad .i64 a65 1))]) rfl rfl (hrc0 hy74 (by simp only [st_agg, List.map_cons, List.map_nil, st1_int, st1_str, strip1_enc, e_Api_Filter_eq, st_int, tupled]) _))) ?_
   refine WS (v := (.bool (!y74))) rfl (nz rfl rfl) ?_
   refine WO.nil ?_
   rcases iteS h with ⟨hc76, h⟩ | ⟨hc76, h⟩
   ·refine WC.condT rfl hc76 ?_
    refine WC.seqR ?_
    refine WS (v := .bool false) rfl (nz rfl rfl) ?_
    refine WO.nil ?_
    refine WC.ret ?_
    refine KX.block_r ?_
    refine KX.seq_r ?_
    refine KX.seq_r ?_
    obtain rfl := Option.some.inj h
    exact hret _ rfl (kc rfl known_nil) (H.sub (.cons _ .slnil) .slnil .slnil)
   ·refine WC.condF rfl hc76 ?_
    refine WC.skip ?_
    refine KX.block_n ?_
    refine KX.seq_n ?_
    refine WC.region ?_
    refine WS (v := .int .i64 x66) rfl (nz rfl rfl) ?_
    refine WS (v := (.int .i64 (ad .i64 x66 1))) rfl (nz rfl rfl) ?_
    refine WS (v := (.int .i64 (ad .i64 x66 1))) rfl (nz rfl rfl) ?_
    refine WO.nil ?_
    refine KX.seq_n ?_
    exact ih h  (kc rfl (kc rfl (kc rfl known_nil))) (H.sub (.cons_cons _ .slnil) .slnil .slnil)
  ·refine WC.condF rfl hc77 ?_
   refine WC.exit ?_
   refine KX.seq_x ?_
   refine KX.seq_x ?_
   obtain rfl := Option.some.inj h
   exact hbrk _ rfl  known_nil (H.sub (.cons_cons _ .slnil) .slnil .slnil)
theorem s9 : ∀ k : Nat, ∀ {a0 : Api_Filter} {a1 : Int} {r : Bool}, F9 k a0 a1 = some r → ∀ {vs : List PV}, vs.map PV.strip = [(.agg [(.int .i64 a0.Kind), (.str a0.Attr), (.str a0.Value), (encSl eS a0.Subs), (encSl e_Api_Filter a0.Kids)]), (.int .i64 a1)] → ∀ S : List SObj, evw env 9 vs S = some ((.bool r), S, false) := by
 intro k
 induction k with
 | zero => intro _ _ r h; cases h
 | succ k ih =>
  intro a0 a1 r h vs ha S
  rw [F9] at h
  refine evw_pureW (pf := fn9) rfl rfl ha (Nat.le_of_ble_eq_true rfl) (by simp [PV.clean, cleanL, clean_encSl clean_Api_Filter, clean_encSl clean_eS]) rfl ?_
  refine WB.of (pf := fn9) rfl ?_
  have H := Hp.start []
  refine WC.seqR ?_
  refine WO.box' rfl rfl rfl rfl rfl H ?_
  intro i1 S hi1 H
  refine WS (v := .bool false) rfl (nz rfl rfl) ?_
  refine WO.nil ?_
  refine WC.seq ?_
  refine WC.seqR ?_
  refine WS (v := .int .i64 a1) rfl (nz rfl rfl) ?_
  refine WS (v := (.bool (decide (a1 > 12)))) rfl (nz rfl rfl) ?_
  refine WS (v := (.bool (decide (a1 > 12)))) rfl (nz rfl rfl) ?_
  refine WO.split 5 (fun σ' S' e' => Known ([(1, (.int .i64 a1)), (2, (.ptr i1 0)), (14, (.bool ((decide (a1 > 12)) || (decide ((Sl.len a0.Kids) > 8)))))]) σ' ∧ Hp [] [] S' [(i1, .cells [(.int .i64 a0.Kind), (.str a0.Attr), (.str a0.Value), (encSl eS a0.Subs), (encSl e_Api_Filter a0.Kids)])] [] [] ∧ e' = false) ?_ ?_
  ·revert H
   cases hc2 : (decide (a1 > 12))
   ·intro H
    refine WO.go0 rfl rfl ?_
    refine WS (v := .ptr i1 4) rfl (nz rfl rfl) ?_
    refine WO.go0 rfl rfl ?_
    refine WS (v := (encSl e_Api_Filter a0.Kids)) rfl (nz rfl (stp_load rfl (H.get 0 rfl) rfl)) ?_
    refine WO.go0 rfl rfl ?_
    refine WS (v := (.int .i64 (Sl.len a0.Kids))) rfl (nz rfl (stp_len rfl (isSl_enc _ _) rfl)) ?_
    refine WO.go0 rfl rfl ?_
    refine WS (v := (.bool (decide ((Sl.len a0.Kids) > 8)))) rfl (nz rfl rfl) ?_
    refine WS (v := (.bool (decide ((Sl.len a0.Kids) > 8)))) rfl (nz rfl rfl) ?_
    refine WO.nil ?_
    exact ⟨(kc rfl (kc rfl (kc rfl known_nil))), H, rfl⟩
   ·intro H
    refine WO.by rfl rfl rfl ?_
    refine WO.by rfl rfl rfl ?_
    refine WO.by rfl rfl rfl ?_
    refine WO.by rfl rfl rfl ?_
    refine WS (v := .bool true) rfl (nz rfl rfl) ?_
    refine WO.nil ?_
    exact ⟨(kc rfl (kc rfl (kc rfl known_nil))), H, rfl⟩
  ·rintro σ S e ⟨hk, H, rfl⟩
   refine WO.of_known hk ?_
   refine WS (v := (.bool ((decide (a1 > 12)) || (decide ((Sl.len a0.Kids) > 8))))) rfl (nz rfl rfl) ?_
   refine WO.split 5 (fun σ' S' e' => Known ([(1, (.int .i64 a1)), (2, (.ptr i1 0)), (20, (.bool (((decide (a1 > 12)) || (decide ((Sl.len a0.Kids) > 8))) || (decide ((Str.len a0.Attr) > 30)))))]) σ' ∧ Hp [] [] S' [(i1, .cells [(.int .i64 a0.Kind), (.str a0.Attr), (.str a0.Value), (encSl eS a0.Subs), (encSl e_Api_Filter a0.Kids)])] [] [] ∧ e' = false) ?_ ?_
   ·revert H
    cases hc3 : ((decide (a1 > 12)) || (decide ((Sl.len a0.Kids) > 8)))
    ·intro H
     refine WO.go0 rfl rfl ?_
     refine WS (v := .ptr i1 1) rfl (nz rfl rfl) ?_
     refine WO.go0 rfl rfl ?_
     refine WS (v := .str a0.Attr) rfl (nz rfl (stp_load rfl (H.get 0 rfl) rfl)) ?_
     refine WO.go0 rfl rfl ?_
     refine WS (v := (.int .i64 (Str.len a0.Attr))) rfl (nz rfl rfl) ?_
     refine WO.go0 rfl rfl ?_
     refine WS (v := (.bool (decide ((Str.len a0.Attr) > 30)))) rfl (nz rfl rfl) ?_
     refine WS (v := (.bool (decide ((Str.len a0.Attr) > 30)))) rfl (nz rfl rfl) ?_
     refine WO.nil ?_
     exact ⟨(kc rfl (kc rfl (kc rfl known_nil))), H, rfl⟩
    ·intro H
     refine WO.by rfl rfl rfl ?_
     refine WO.by rfl rfl rfl ?_
     refine WO.by rfl rfl rfl ?_
     refine WO.by rfl rfl rfl ?_
     refine WS (v := .bool true) rfl (nz rfl rfl) ?_
     refine WO.nil ?_
     exact ⟨(kc rfl (kc rfl (kc rfl known_nil))), H, rfl⟩
   ·rintro σ S e ⟨hk, H, rfl⟩
    refine WO.of_known hk ?_
    refine WS (v := (.bool (((decide (a1 > 12)) || (decide ((Sl.len a0.Kids) > 8))) || (decide ((Str.len a0.Attr) > 30))))) rfl (nz rfl rfl) ?_
    refine WO.split 5 (fun σ' S' e' => Known ([(1, (.int .i64 a1)), (2, (.ptr i1 0)), (26, (.bool ((((decide (a1 > 12)) || (decide ((Sl.len a0.Kids) > 8))) || (decide ((Str.len a0.Attr) > 30))) || (decide ((Str.len a0.Value) > 80)))))]) σ' ∧ Hp [] [] S' [(i1, .cells [(.int .i64 a0.Kind), (.str a0.Attr), (.str a0.Value), (encSl eS a0.Subs), (encSl e_Api_Filter a0.Kids)])] [] [] ∧ e' = false) ?_ ?_
    ·revert H
     cases hc4 : (((decide (a1 > 12)) || (decide ((Sl.len a0.Kids) > 8))) || (decide ((Str.len a0.Attr) > 30)))
     ·intro H
      refine WO.go0 rfl rfl ?_
      refine WS (v := .ptr i1 2) rfl (nz rfl rfl) ?_
      refine WO.go0 rfl rfl ?_
      refine WS (v := .str a0.Value) rfl (nz rfl (stp_load rfl (H.get 0 rfl) rfl)) ?_
      refine WO.go0 rfl rfl ?_
      refine WS (v := (.int .i64 (Str.len a0.Value))) rfl (nz rfl rfl) ?_
      refine WO.go0 rfl rfl ?_
      refine WS (v := (.bool (decide ((Str.len a0.Value) > 80)))) rfl (nz rfl rfl) ?_
      refine WS (v := (.bool (decide ((Str.len a0.Value) > 80)))) rfl (nz rfl rfl) ?_
      refine WO.nil ?_
      exact ⟨(kc rfl (kc rfl (kc rfl known_nil))), H, rfl⟩
     ·intro H
      refine WO.by rfl rfl rfl ?_
      refine WO.by rfl rfl rfl ?_
      refine WO.by rfl rfl rfl ?_
      refine WO.by rfl rfl rfl ?_
      refine WS (v := .bool true) rfl (nz rfl rfl) ?_
      refine WO.nil ?_
      exact ⟨(kc rfl (kc rfl (kc rfl known_nil))), H, rfl⟩
    ·rintro σ S e ⟨hk, H, rfl⟩
     refine WO.of_known hk ?_
     refine WS (v := (.bool ((((decide (a1 > 12)) || (decide ((Sl.len a0.Kids) > 8))) || (decide ((Str.len a0.Attr) > 30))) || (decide ((Str.len a0.Value) > 80))))) rfl (nz rfl rfl) ?_
     refine WO.split 5 (fun σ' S' e' => Known ([(1, (.int .i64 a1)), (2, (.ptr i1 0)), (32, (.bool (((((decide (a1 > 12)) || (decide ((Sl.len a0.Kids) > 8))) || (decide ((Str.len a0.Attr) > 30))) || (decide ((Str.len a0.Value) > 80))) || (decide ((Sl.len a0.Subs) > 24)))))]) σ' ∧ Hp [] [] S' [(i1, .cells [(.int .i64 a0.Kind), (.str a0.Attr), (.str a0.Value), (encSl eS a0.Subs), (encSl e_Api_Filter a0.Kids)])] [] [] ∧ e' = false) ?_ ?_
     ·revert H
      cases hc5 : ((((decide (a1 > 12)) || (decide ((Sl.len a0.Kids) > 8))) || (decide ((Str.len a0.Attr) > 30))) || (decide ((Str.len a0.Value) > 80)))
      ·intro H
       refine WO.go0 rfl rfl ?_
       refine WS (v := .ptr i1 3) rfl (nz rfl rfl) ?_
       refine WO.go0 rfl rfl ?_
       refine WS (v := (encSl eS a0.Subs)) rfl (nz rfl (stp_load rfl (H.get 0 rfl) rfl)) ?_
       refine WO.go0 rfl rfl ?_
       refine WS (v := (.int .i64 (Sl.len a0.Subs))) rfl (nz rfl (stp_len rfl (isSl_enc _ _) rfl)) ?_
       refine WO.go0 rfl rfl ?_
       refine WS (v := (.bool (decide ((Sl.len a0.Subs) > 24)))) rfl (nz rfl rfl) ?_
       refine WS (v := (.bool (decide ((Sl.len a0.Subs) > 24)))) rfl (nz rfl rfl) ?_
       refine WO.nil ?_
       exact ⟨(kc rfl (kc rfl (kc rfl known_nil))), H, rfl⟩
      ·intro H
       refine WO.by rfl rfl rfl ?_
       refine WO.by rfl rfl rfl ?_
       refine WO.by rfl rfl rfl ?_
       refine WO.by rfl rfl rfl ?_
       refine WS (v := .bool true) rfl (nz rfl rfl) ?_
       refine WO.nil ?_
       exact ⟨(kc rfl (kc rfl (kc rfl known_nil))), H, rfl⟩
     ·rintro σ S e ⟨hk, H, rfl⟩
      refine WO.of_known hk ?_
      refine WO.nil ?_
      rcases iteS h with ⟨hc79, h⟩ | ⟨hc79, h⟩
      ·refine WC.condT rfl hc79 ?_
       refine WC.seqR ?_
       refine WS (v := .bool false) rfl (nz rfl rfl) ?_
       refine WO.nil ?_
       refine WC.ret ?_
       refine KX.seq_r ?_
       obtain rfl := Option.some.inj h
       refine KB.ret (vs := [(.bool false)]) (res_tmp rfl res_nil) (fl_cons' rfl rfl) ?_
       exact rfl
      ·refine WC.condF rfl hc79 ?_
       refine WC.skip ?_
       refine KX.seq_n ?_
       refine WC.seq ?_
       refine WC.seqR ?_
       refine WS (v := .int .i64 0) rfl (nz rfl rfl) ?_
       refine WO.nil ?_
       obtain ⟨y39, hy39, hOy39⟩ := bindS h
       refine WC.block ?_
       refine l9_L0 ih hi1 ?_ ?_ hy39  (kc rfl (kc rfl (kc rfl known_nil))) (H.sub (.cons_cons _ .slnil) .slnil .slnil)
       ·intro y39r he σ S  hk H; subst he; replace h := hOy39; dsimp only at h
        refine KX.of_known hk ?_
        refine KX.block_r ?_
        refine KX.seq_r ?_
        obtain rfl := Option.some.inj h
        refine KB.ret (vs := [(.bool y39r)]) (res_tmp rfl res_nil) (fl_cons' rfl rfl) ?_
        exact rfl
       ·intro y39b he σ S  hk H; subst he; replace h := hOy39; dsimp only at h
        refine KX.of_known hk ?_
        refine KX.block_x ?_
        refine KX.seq_n ?_
        refine WC.seq ?_
        refine WC.seqR ?_
        refine WS (v := .int .i64 0) rfl (nz rfl rfl) ?_
        refine WO.nil ?_
        obtain ⟨y78, hy78, hOy78⟩ := bindS h
        refine WC.block ?_
        refine l9_L2 ih hi1 ?_ ?_ hy78  (kc rfl (kc rfl (kc rfl known_nil))) (H.sub (.cons_cons _ .slnil) .slnil .slnil)
        ·intro y78r he σ S  hk H; subst he; replace h := hOy78; dsimp only at h
         refine KX.of_known hk ?_
         refine KX.block_r ?_
         refine KX.seq_r ?_
         obtain rfl := Option.some.inj h
         refine KB.ret (vs := [(.bool y78r)]) (res_tmp rfl res_nil) (fl_cons' rfl rfl) ?_
         exact rfl
        ·intro y78b he σ S  hk H; subst he; replace h := hOy78; dsimp only at h
         refine KX.of_known hk ?_
         refine KX.block_x ?_
         refine KX.seq_n ?_
         refine WC.seqR ?_
         refine WS (v := .bool true) rfl (nz rfl rfl) ?_
         refine WO.nil ?_
         refine WC.ret ?_
         obtain rfl := Option.some.inj h
         refine KB.ret (vs := [(.bool true)]) (res_tmp rfl res_nil) (fl_cons' rfl rfl) ?_
         exact rfl
end Go.Proofs.Ythkjepoaddfoiaa.M
