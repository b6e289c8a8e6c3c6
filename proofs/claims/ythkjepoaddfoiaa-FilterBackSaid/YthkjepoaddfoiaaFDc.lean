/- Part of the proof: the runs of functions on the abstract machine. -/
import Derived.Test.YthkjepoaddfoiaaPamM4
import Derived.Test.YthkjepoaddfoiaaFns
import Derived.Test.YthkjepoaddfoiaaFDe
namespace Go.Proofs.Ythkjepoaddfoiaa.M
open Go Go.Pam Go.RowKit Go.WideShapes
set_option maxRecDepth 4000
set_option linter.unusedVariables false
set_option linter.unusedSimpArgs false

def F25 (k : Nat) (a0 : Int) : Option Bool :=
 some ((decide (a0 ≥ 1)) && (decide (a0 ≤ 3)))
theorem s25 : ∀ k : Nat, ∀ {a0 : Int} {r : Bool}, F25 k a0 = some r → ∀ {vs : List PV}, vs.map PV.strip = [(.int .i64 a0)] → ∀ S : List SObj, evw env 25 vs S = some ((.bool r), S, false) := by
 intro k a0 r h vs ha S
 unfold F25 at h
 refine evw_pureW (pf := fn25) rfl rfl ha (Nat.le_of_ble_eq_true rfl) rfl rfl ?_
 refine WB.of (pf := fn25) rfl ?_
 have H := Hp.start []
 refine WC.seqR ?_
 refine WS (v := .bool false) rfl (nz rfl rfl) ?_
 refine WO.nil ?_
 refine WC.seqR ?_
 refine WS (v := .int .i64 a0) rfl (nz rfl rfl) ?_
 refine WS (v := (.bool (decide (a0 ≥ 1)))) rfl (nz rfl rfl) ?_
 refine WS (v := (.bool (decide (a0 ≥ 1)))) rfl (nz rfl rfl) ?_
 refine WO.split 3 (fun σ' S' e' => Known ([(8, (.bool ((decide (a0 ≥ 1)) && (decide (a0 ≤ 3)))))]) σ' ∧ Hp [] [] S' [] [] [] ∧ e' = false) ?_ ?_
 ·revert H
  cases hc1 : (decide (a0 ≥ 1))
  ·intro H
   refine WO.by rfl rfl rfl ?_
   refine WO.by rfl rfl rfl ?_
   refine WS (v := .bool false) rfl (nz rfl rfl) ?_
   refine WO.nil ?_
   exact ⟨(kc rfl known_nil), H, rfl⟩
  ·intro H
   refine WO.go0 rfl rfl ?_
   refine WS (v := .int .i64 a0) rfl (nz rfl rfl) ?_
   refine WO.go0 rfl rfl ?_
   refine WS (v := (.bool (decide (a0 ≤ 3)))) rfl (nz rfl rfl) ?_
   refine WS (v := (.bool (decide (a0 ≤ 3)))) rfl (nz rfl rfl) ?_
   refine WO.nil ?_
   exact ⟨(kc rfl known_nil), H, rfl⟩
 ·rintro σ S e ⟨hk, H, rfl⟩
  refine WO.of_known hk ?_
  refine WS (v := (.bool ((decide (a0 ≥ 1)) && (decide (a0 ≤ 3))))) rfl (nz rfl rfl) ?_
  refine WO.nil ?_
  refine WC.ret ?_
  obtain rfl := Option.some.inj h
  refine KB.ret (vs := [(.bool ((decide (a0 ≥ 1)) && (decide (a0 ≤ 3))))]) (res_tmp rfl res_nil) (fl_cons' rfl rfl) ?_
  exact rfl
def F14_L0 (rc0 : Api_Filter → Option Int) (k : Nat) (a26 : Api_Filter) : Nat → Int → Int → Option (Int × Int)
 | 0, _, _ => none
 | n + 1, x24, x25 =>
  Option.bind (F25 k a26.Kind) fun y27 =>
  if (y27 && (decide (x25 < (Sl.len a26.Kids)))) && (decide (x24 ≤ 20)) then
  Option.bind (Sl.at? a26.Kids x25) fun y33 =>
  Option.bind (rc0 y33) fun y34 =>
  F14_L0 rc0 k a26 n (ad .i64 x24 y34) (ad .i64 x25 1)
  else
  some (x24, x25)
def F14 : Nat → Api_Filter → Option Int
 | 0, _ => none
 | k + 1, a0 =>
  Option.bind (F14_L0 (F14 k) k a0 k 1 0) fun y36 =>
  some (imin y36.1 21)
theorem l14_L0 {rc0 : Api_Filter → Option Int} (hrc0 : ∀ {a0 : Api_Filter} {r : Int}, rc0 a0 = some r → ∀ {vs : List PV}, vs.map PV.strip = [(.agg [(.int .i64 a0.Kind), (.str a0.Attr), (.str a0.Value), (encSl eS a0.Subs), (encSl e_Api_Filter a0.Kids)])] → ∀ S : List SObj, evw env 14 vs S = some ((.int .i64 r), S, false)) {k : Nat} {a26 : Api_Filter} {S0 : List SObj} {R : List Nat} {K : KX} {i1 : Nat} (hi1 : S0.length ≤ i1)  {o : (Int × Int)}
  (hbrk : ∀ {σ' : Nat → PV} {S' : List SObj}, Known [(3, (.int .i64 o.1))] σ' → Hp S0 R S' [(i1, .cells [(.int .i64 a26.Kind), (.str a26.Attr), (.str a26.Value), (encSl eS a26.Subs), (encSl e_Api_Filter a26.Kids)])] [] [] → K (.exit 0) σ' S' false) :
  ∀ {n : Nat} {x24 : Int} {x25 : Int}, F14_L0 rc0 k a26 n x24 x25 = some o → ∀ {σ : Nat → PV} {S : List SObj}, Known [(1, (.ptr i1 0)), (3, (.int .i64 x24)), (4, (.int .i64 x25))] σ → Hp S0 R S [(i1, .cells [(.int .i64 a26.Kind), (.str a26.Attr), (.str a26.Value), (encSl eS a26.Subs), (encSl e_Api_Filter a26.Kids)])] [] [] → WC env ⟨31, S0.length⟩ (.loop pc14L0) σ S false K := by
 intro n
 induction n with
 | zero => intro _ _ h; cases h
 | succ n ih =>
  intro x24 x25 h σ S  hk H
  rw [F14_L0] at h
  refine WC.loop ?_
  refine WC.of_known hk ?_
  refine WC.seq ?_
  refine WC.seqR ?_
  refine WS (v := .ptr i1 0) rfl (nz rfl rfl) ?_
  refine WS (v := .int .i64 a26.Kind) rfl (nz rfl (stp_load rfl (H.get 0 rfl) rfl)) ?_
  obtain ⟨y27, hy27, h⟩ := bindS h
  refine WS (v := .bool y27) rfl (nz rfl (stp_call (vs := [(.int .i64 a26.Kind)]) rfl rfl (s25 _ hy27 rfl _))) ?_
  refine WS (v := .bool y27) rfl (nz rfl rfl) ?_
  refine WO.split 6 (fun σ' S' e' => Known ([(1, (.ptr i1 0)), (3, (.int .i64 x24)), (4, (.int .i64 x25)), (14, (.bool (y27 && (decide (x25 < (Sl.len a26.Kids))))))]) σ' ∧ Hp S0 R S' [(i1, .cells [(.int .i64 a26.Kind), (.str a26.Attr), (.str a26.Value), (encSl eS a26.Subs), (encSl e_Api_Filter a26.Kids)])] [] [] ∧ e' = false) ?_ ?_
  ·revert H
   cases hc28 : y27
   ·intro H
    refine WO.by rfl rfl rfl ?_
    refine WO.by rfl rfl rfl ?_
    refine WO.by rfl rfl rfl ?_
    refine WO.by rfl rfl rfl ?_
    refine WO.by rfl rfl rfl ?_
    refine WS (v := .bool false) rfl (nz rfl rfl) ?_
    refine WO.nil ?_
    exact ⟨(kc rfl (kc rfl (kc rfl (kc rfl known_nil)))), H, rfl⟩
   ·intro H
    refine WO.go0 rfl rfl ?_
    refine WS (v := .int .i64 x25) rfl (nz rfl rfl) ?_
    refine WO.go0 rfl rfl ?_
    refine WS (v := .ptr i1 4) rfl (nz rfl rfl) ?_
    refine WO.go0 rfl rfl ?_
    refine WS (v := (encSl e_Api_Filter a26.Kids)) rfl (nz rfl (stp_load rfl (H.get 0 rfl) rfl)) ?_
    refine WO.go0 rfl rfl ?_
    refine WS (v := (.int .i64 (Sl.len a26.Kids))) rfl (nz rfl (stp_len rfl (isSl_enc _ _) rfl)) ?_
    refine WO.go0 rfl rfl ?_
    refine WS (v := (.bool (decide (x25 < (Sl.len a26.Kids))))) rfl (nz rfl rfl) ?_
    refine WS (v := (.bool (decide (x25 < (Sl.len a26.Kids))))) rfl (nz rfl rfl) ?_
    refine WO.nil ?_
    exact ⟨(kc rfl (kc rfl (kc rfl (kc rfl known_nil)))), H, rfl⟩
  ·rintro σ S e ⟨hk, H, rfl⟩
   refine WO.of_known hk ?_
   refine WS (v := (.bool (y27 && (decide (x25 < (Sl.len a26.Kids)))))) rfl (nz rfl rfl) ?_
   refine WO.split 3 (fun σ' S' e' => Known ([(1, (.ptr i1 0)), (3, (.int .i64 x24)), (4, (.int .i64 x25)), (18, (.bool ((y27 && (decide (x25 < (Sl.len a26.Kids)))) && (decide (x24 ≤ 20)))))]) σ' ∧ Hp S0 R S' [(i1, .cells [(.int .i64 a26.Kind), (.str a26.Attr), (.str a26.Value), (encSl eS a26.Subs), (encSl e_Api_Filter a26.Kids)])] [] [] ∧ e' = false) ?_ ?_
   ·revert H
    cases hc29 : (y27 && (decide (x25 < (Sl.len a26.Kids))))
    ·intro H
     refine WO.by rfl rfl rfl ?_
     refine WO.by rfl rfl rfl ?_
     refine WS (v := .bool false) rfl (nz rfl rfl) ?_
     refine WO.nil ?_
     exact ⟨(kc rfl (kc rfl (kc rfl (kc rfl known_nil)))), H, rfl⟩
    ·intro H
     refine WO.go0 rfl rfl ?_
     refine WS (v := .int .i64 x24) rfl (nz rfl rfl) ?_
     refine WO.go0 rfl rfl ?_
     refine WS (v := (.bool (decide (x24 ≤ 20)))) rfl (nz rfl rfl) ?_
     refine WS (v := (.bool (decide (x24 ≤ 20)))) rfl (nz rfl rfl) ?_
     refine WO.nil ?_
     exact ⟨(kc rfl (kc rfl (kc rfl (kc rfl known_nil)))), H, rfl⟩
   ·rintro σ S e ⟨hk, H, rfl⟩
    refine WO.of_known hk ?_
    refine WO.nil ?_
    rcases iteS h with ⟨hc35, h⟩ | ⟨hc35, h⟩
    ·refine WC.condT rfl hc35 ?_
     refine WC.skip ?_
     refine KX.seq_n ?_
     refine WC.seq ?_
     refine WC.block ?_
     refine WC.region ?_
     refine WS (v := .int .i64 x24) rfl (nz rfl rfl) ?_
     refine WS (v := .ptr i1 4) rfl (nz rfl rfl) ?_
     refine WS (v := (encSl e_Api_Filter a26.Kids)) rfl (nz rfl (stp_load rfl (H.get 0 rfl) rfl)) ?_
     refine WS (v := .int .i64 x25) rfl (nz rfl rfl) ?_
     obtain ⟨y33, hy33, h⟩ := bindS h
     refine WS (v := (.iptr [(.int .i64 y33.Kind), (.str y33.Attr), (.str y33.Value), (encSl eS y33.Subs), (encSl e_Api_Filter y33.Kids)] 0)) rfl (nz rfl (stp_idxAddr rfl (isSl_enc _ _) rfl rfl rfl hy33 (e_Api_Filter_cells _) rfl)) ?_
     refine WS (v := (.agg [(.int .i64 y33.Kind), (.str y33.Attr), (.str y33.Value), (encSl eS y33.Subs), (encSl e_Api_Filter y33.Kids)])) rfl (nz rfl rfl) ?_
     obtain ⟨y34, hy34, h⟩ := bindS h
     refine WS (v := .int .i64 y34) rfl (nz rfl (stp_call (vs := [(.agg [(.int .i64 y33.Kind), (.str y33.Attr), (.str y33.Value), (encSl eS y33.Subs), (encSl e_Api_Filter y33.Kids)])]) rfl rfl (hrc0 hy34 (by simp only [st_agg, List.map_cons, List.map_nil, st1_int, st1_str, strip1_enc, e_Api_Filter_eq, tupled]) _))) ?_
     refine WS (v := (.int .i64 (ad .i64 x24 y34))) rfl (nz rfl rfl) ?_
     refine WS (v := (.int .i64 (ad .i64 x24 y34))) rfl (nz rfl rfl) ?_
     refine WO.nil ?_
     refine KX.block_n ?_
     refine KX.seq_n ?_
     refine WC.region ?_
     refine WS (v := .int .i64 x25) rfl (nz rfl rfl) ?_
     refine WS (v := (.int .i64 (ad .i64 x25 1))) rfl (nz rfl rfl) ?_
     refine WS (v := (.int .i64 (ad .i64 x25 1))) rfl (nz rfl rfl) ?_
     refine WO.nil ?_
     refine KX.seq_n ?_
     exact ih h  (kc rfl (kc rfl (kc rfl known_nil))) (H.sub (.cons_cons _ .slnil) .slnil .slnil)
    ·refine WC.condF rfl hc35 ?_
     refine WC.exit ?_
     refine KX.seq_x ?_
     refine KX.seq_x ?_
     obtain rfl := Option.some.inj h
     exact hbrk  (kc rfl known_nil) (H.sub (.cons_cons _ .slnil) .slnil .slnil)
theorem s14 : ∀ k : Nat, ∀ {a0 : Api_Filter} {r : Int}, F14 k a0 = some r → ∀ {vs : List PV}, vs.map PV.strip = [(.agg [(.int .i64 a0.Kind), (.str a0.Attr), (.str a0.Value), (encSl eS a0.Subs), (encSl e_Api_Filter a0.Kids)])] → ∀ S : List SObj, evw env 14 vs S = some ((.int .i64 r), S, false) := by
 intro k
 induction k with
 | zero => intro _ r h; cases h
 | succ k ih =>
  intro a0 r h vs ha S
  rw [F14] at h
  refine evw_pureW (pf := fn14) rfl rfl ha (Nat.le_of_ble_eq_true rfl) (by simp [PV.clean, cleanL, clean_encSl clean_Api_Filter, clean_encSl clean_eS]) rfl ?_
  refine WB.of (pf := fn14) rfl ?_
  have H := Hp.start []
  refine WC.seqR ?_
  refine WO.box' rfl rfl rfl rfl rfl H ?_
  intro i1 S hi1 H
  refine WS (v := .int .i64 0) rfl (nz rfl rfl) ?_
  refine WO.nil ?_
  refine WC.seqR ?_
  refine WS (v := .int .i64 1) rfl (nz rfl rfl) ?_
  refine WO.nil ?_
  refine WC.seq ?_
  refine WC.seqR ?_
  refine WS (v := .int .i64 0) rfl (nz rfl rfl) ?_
  refine WO.nil ?_
  obtain ⟨y36, hy36, hOy36⟩ := bindS h
  refine WC.block ?_
  refine l14_L0 ih hi1 ?_ hy36  (kc rfl (kc rfl (kc rfl known_nil))) (H.sub (.cons_cons _ .slnil) .slnil .slnil)
  ·intro σ S  hk H; replace h := hOy36
   refine KX.of_known hk ?_
   refine KX.block_x ?_
   refine KX.seq_n ?_
   refine WC.seqR ?_
   refine WS (v := .int .i64 y36.1) rfl (nz rfl rfl) ?_
   refine WS (v := (.int .i64 (imin y36.1 21))) rfl (nz rfl rfl) ?_
   refine WS (v := (.int .i64 (imin y36.1 21))) rfl (nz rfl rfl) ?_
   refine WO.nil ?_
   refine WC.ret ?_
   obtain rfl := Option.some.inj h
   refine KB.ret (vs := [(.int .i64 (imin y36.1 21))]) (res_tmp rfl res_nil) (fl_cons' rfl rfl) ?_
   exact rfl
def F34_L0 (k : Nat) (a59 : Sl Str) (a60 : Int) : Nat → Int → Option (Out Bool Int)
 | 0, _ => none
 | n + 1, x61 =>
  if decide (x61 < a60) then
  Option.bind (Sl.at? a59 x61) fun y73 =>
  if (decide ((Str.len y73) > 60)) || (((y73 == []) && (decide (x61 > 0))) && (decide (x61 < (sb .i64 (Sl.len a59) 1)))) then
  some (Out.ret false)
  else
  F34_L0 k a59 a60 n (ad .i64 x61 1)
  else
  some (Out.brk x61)
def F34 (k : Nat) (a0 : Sl Str) : Option Bool :=
 Option.bind (if (decide ((Sl.len a0) < 2)) || (decide ((Sl.len a0) > 20)) then
 some true
 else
 Option.bind (Sl.join? a0 []) fun y7 =>
 some (y7 == [])) fun y6 =>
 if y6 then
 some false
 else
 Option.bind (F34_L0 k a0 (Sl.len a0) k 0) fun y84 =>
 match y84 with
 | .ret y84r => some y84r
 | .brk y84b =>
 some true
theorem l34_L0 {k : Nat} {a59 : Sl Str} {a60 : Int} {S0 : List SObj} {R : List Nat} {K : KX}  {o : Out Bool Int}
  (hret : ∀ r : Bool, o = .ret r → ∀ {σ' : Nat → PV} {S' : List SObj}, Known [(2, (.bool r))] σ' → Hp S0 R S' [] [] [] → K .ret σ' S' false)
  (hbrk : ∀ y : Int, o = .brk y → ∀ {σ' : Nat → PV} {S' : List SObj}, Known [] σ' → Hp S0 R S' [] [] [] → K (.exit 0) σ' S' false) :
  ∀ {n : Nat} {x61 : Int}, F34_L0 k a59 a60 n x61 = some o → ∀ {σ : Nat → PV} {S : List SObj}, Known [(0, (encSl eS a59)), (18, (encSl eS a59)), (19, (.int .i64 a60)), (20, (.int .i64 x61))] σ → Hp S0 R S [] [] [] → WC env ⟨44, S0.length⟩ (.loop pc34L0) σ S false K := by
 intro n
 induction n with
 | zero => intro _ h; cases h
 | succ n ih =>
  intro x61 h σ S  hk H
  rw [F34_L0] at h
  refine WC.loop ?_
  refine WC.of_known hk ?_
  refine WC.seqR ?_
  refine WS (v := (.bool (decide (x61 < a60)))) rfl (nz rfl rfl) ?_
  refine WO.nil ?_
  refine WC.seq ?_
  rcases iteS h with ⟨hc83, h⟩ | ⟨hc83, h⟩
  ·refine WC.condT rfl hc83 ?_
   refine WC.skip ?_
   refine KX.seq_n ?_
   refine WC.seq ?_
   refine WC.block ?_
   refine WC.seqR ?_
   refine WS (v := .int .i64 x61) rfl (nz rfl rfl) ?_
   obtain ⟨y73, hy73, h⟩ := bindS h
   refine WS (v := (.iptr [(.str y73)] 0)) rfl (nz rfl (stp_idxAddr rfl (isSl_enc _ _) rfl rfl rfl hy73 rfl rfl)) ?_
   refine WS (v := .str y73) rfl (nz rfl rfl) ?_
   refine WS (v := .int .i64 x61) rfl (nz rfl rfl) ?_
   refine WS (v := .str y73) rfl (nz rfl rfl) ?_
   refine WO.nil ?_
   refine WC.seqR ?_
   refine WS (v := .str y73) rfl (nz rfl rfl) ?_
   refine WS (v := (.int .i64 (Str.len y73))) rfl (nz rfl rfl) ?_
   refine WS (v := (.bool (decide ((Str.len y73) > 60)))) rfl (nz rfl rfl) ?_
   refine WS (v := (.bool (decide ((Str.len y73) > 60)))) rfl (nz rfl rfl) ?_
   refine WO.split 14 (fun σ' S' e' => Known ([(0, (encSl eS a59)), (18, (encSl eS a59)), (19, (.int .i64 a60)), (20, (.int .i64 x61)), (42, (.bool ((decide ((Str.len y73) > 60)) || (((y73 == []) && (decide (x61 > 0))) && (decide (x61 < (sb .i64 (Sl.len a59) 1)))))))]) σ' ∧ Hp S0 R S' [] [] [] ∧ e' = false) ?_ ?_
   ·revert H
    cases hc78 : (decide ((Str.len y73) > 60))
    ·intro H
     refine WO.go0 rfl rfl ?_
     refine WS (v := .str y73) rfl (nz rfl rfl) ?_
     refine WO.go0 rfl rfl ?_
     refine WS (v := (.bool (y73 == []))) rfl (nz rfl rfl) ?_
     refine WO.go0 rfl rfl ?_
     refine WS (v := (.bool (y73 == []))) rfl (nz rfl rfl) ?_
     refine WO.split 3 (fun σ' S' e' => Known ([(0, (encSl eS a59)), (3, (.int .i64 x61)), (18, (encSl eS a59)), (19, (.int .i64 a60)), (20, (.int .i64 x61)), (28, (.bool false)), (34, (.bool ((y73 == []) && (decide (x61 > 0)))))]) σ' ∧ Hp S0 R S' [] [] [] ∧ e' = false) ?_ ?_
     ·revert H
      cases hc79 : (y73 == [])
      ·intro H
       refine WO.by rfl rfl rfl ?_
       refine WO.by rfl rfl rfl ?_
       refine WO.go0 rfl rfl ?_
       refine WS (v := .bool false) rfl (nz rfl rfl) ?_
       refine WO.nil ?_
       exact ⟨(kc rfl (kc rfl (kc rfl (kc rfl (kc rfl (kc rfl (kc rfl known_nil))))))), H, rfl⟩
      ·intro H
       refine WO.go0 rfl rfl ?_
       refine WS (v := .int .i64 x61) rfl (nz rfl rfl) ?_
       refine WO.go0 rfl rfl ?_
       refine WS (v := (.bool (decide (x61 > 0)))) rfl (nz rfl rfl) ?_
       refine WO.go0 rfl rfl ?_
       refine WS (v := (.bool (decide (x61 > 0)))) rfl (nz rfl rfl) ?_
       refine WO.nil ?_
       exact ⟨(kc rfl (kc rfl (kc rfl (kc rfl (kc rfl (kc rfl (kc rfl known_nil))))))), H, rfl⟩
     ·rintro σ S e ⟨hk, H, rfl⟩
      refine WO.of_known hk ?_
      refine WO.go0 rfl rfl ?_
      refine WS (v := (.bool ((y73 == []) && (decide (x61 > 0))))) rfl (nz rfl rfl) ?_
      refine WO.split 6 (fun σ' S' e' => Known ([(0, (encSl eS a59)), (18, (encSl eS a59)), (19, (.int .i64 a60)), (20, (.int .i64 x61)), (28, (.bool false)), (41, (.bool (((y73 == []) && (decide (x61 > 0))) && (decide (x61 < (sb .i64 (Sl.len a59) 1))))))]) σ' ∧ Hp S0 R S' [] [] [] ∧ e' = false) ?_ ?_
      ·revert H
       cases hc80 : ((y73 == []) && (decide (x61 > 0)))
       ·intro H
        refine WO.by rfl rfl rfl ?_
        refine WO.by rfl rfl rfl ?_
        refine WO.by rfl rfl rfl ?_
        refine WO.by rfl rfl rfl ?_
        refine WO.by rfl rfl rfl ?_
        refine WO.go0 rfl rfl ?_
        refine WS (v := .bool false) rfl (nz rfl rfl) ?_
        refine WO.nil ?_
        exact ⟨(kc rfl (kc rfl (kc rfl (kc rfl (kc rfl (kc rfl known_nil)))))), H, rfl⟩
       ·intro H
        refine WO.go0 rfl rfl ?_
        refine WS (v := .int .i64 x61) rfl (nz rfl rfl) ?_
        refine WO.go0 rfl rfl ?_
        refine WS (v := (encSl eS a59)) rfl (nz rfl rfl) ?_
        refine WO.go0 rfl rfl ?_
        refine WS (v := (.int .i64 (Sl.len a59))) rfl (nz rfl (stp_len rfl (isSl_enc _ _) rfl)) ?_
        refine WO.go0 rfl rfl ?_
        refine WS (v := (.int .i64 (sb .i64 (Sl.len a59) 1))) rfl (nz rfl rfl) ?_
        refine WO.go0 rfl rfl ?_
        refine WS (v := (.bool (decide (x61 < (sb .i64 (Sl.len a59) 1))))) rfl (nz rfl rfl) ?_
        refine WO.go0 rfl rfl ?_
        refine WS (v := (.bool (decide (x61 < (sb .i64 (Sl.len a59) 1))))) rfl (nz rfl rfl) ?_
        refine WO.nil ?_
        exact ⟨(kc rfl (kc rfl (kc rfl (kc rfl (kc rfl (kc rfl known_nil)))))), H, rfl⟩
      ·rintro σ S e ⟨hk, H, rfl⟩
       refine WO.of_known hk ?_
       refine WS (v := (.bool (((y73 == []) && (decide (x61 > 0))) && (decide (x61 < (sb .i64 (Sl.len a59) 1)))))) rfl (nz rfl rfl) ?_
       refine WO.nil ?_
       exact ⟨(kc rfl (kc rfl (kc rfl (kc rfl (kc rfl known_nil))))), H, rfl⟩
    ·intro H
     refine WO.by rfl rfl rfl ?_
     refine WO.by rfl rfl rfl ?_
     refine WO.by rfl rfl rfl ?_
     refine WO.by0 rfl rfl ?_
     refine WO.by0 rfl rfl ?_
     refine WO.by rfl rfl rfl ?_
     refine WO.by rfl rfl rfl ?_
     refine WO.by0 rfl rfl ?_
     refine WO.by0 rfl rfl ?_
     refine WO.by0 rfl rfl ?_
     refine WO.by0 rfl rfl ?_
     refine WO.by0 rfl rfl ?_
     refine WO.by rfl rfl rfl ?_
     refine WS (v := .bool true) rfl (nz rfl rfl) ?_
     refine WO.nil ?_
     exact ⟨(kc rfl (kc rfl (kc rfl (kc rfl (kc rfl known_nil))))), H, rfl⟩
   ·rintro σ S e ⟨hk, H, rfl⟩
    refine WO.of_known hk ?_
    refine WO.nil ?_
    rcases iteS h with ⟨hc82, h⟩ | ⟨hc82, h⟩
    ·refine WC.condT rfl hc82 ?_
     refine WC.seqR ?_
     refine WS (v := .bool false) rfl (nz rfl rfl) ?_
     refine WO.nil ?_
     refine WC.ret ?_
     refine KX.block_r ?_
     refine KX.seq_r ?_
     refine KX.seq_r ?_
     obtain rfl := Option.some.inj h
     exact hret _ rfl (kc rfl known_nil) (H.sub .slnil .slnil .slnil)
    ·refine WC.condF rfl hc82 ?_
     refine WC.skip ?_
     refine KX.block_n ?_
     refine KX.seq_n ?_
     refine WC.region ?_
     refine WS (v := (.int .i64 (ad .i64 x61 1))) rfl (nz rfl rfl) ?_
     refine WS (v := (.int .i64 (ad .i64 x61 1))) rfl (nz rfl rfl) ?_
     refine WO.nil ?_
     refine KX.seq_n ?_
     exact ih h  (kc rfl (kc rfl (kc rfl (kc rfl known_nil)))) (H.sub .slnil .slnil .slnil)
  ·refine WC.condF rfl hc83 ?_
   refine WC.exit ?_
   refine KX.seq_x ?_
   refine KX.seq_x ?_
   obtain rfl := Option.some.inj h
   exact hbrk _ rfl  known_nil (H.sub .slnil .slnil .slnil)
theorem s34 : ∀ k : Nat, ∀ {a0 : Sl Str} {r : Bool}, F34 k a0 = some r → ∀ {vs : List PV}, vs.map PV.strip = [(encSl eS a0)] → ∀ S : List SObj, evw env 34 vs S = some ((.bool r), S, false) := by
 intro k a0 r h vs ha S
 unfold F34 at h
 refine evw_pureW (pf := fn34) rfl rfl ha (Nat.le_of_ble_eq_true rfl) (by simp [PV.clean, cleanL, clean_encSl clean_eS]) rfl ?_
 refine WB.of (pf := fn34) rfl ?_
 have H := Hp.start []
 refine WC.seqR ?_
 refine WS (v := .bool false) rfl (nz rfl rfl) ?_
 refine WO.nil ?_
 refine WC.seq ?_
 refine WC.seqR ?_
 refine WS (v := (encSl eS a0)) rfl (nz rfl rfl) ?_
 refine WS (v := (.int .i64 (Sl.len a0))) rfl (nz rfl (stp_len rfl (isSl_enc _ _) rfl)) ?_
 refine WS (v := (.bool (decide ((Sl.len a0) < 2)))) rfl (nz rfl rfl) ?_
 refine WS (v := (.bool (decide ((Sl.len a0) < 2)))) rfl (nz rfl rfl) ?_
 refine WO.split 4 (fun σ' S' e' => Known ([(0, (encSl eS a0)), (12, (.bool ((decide ((Sl.len a0) < 2)) || (decide ((Sl.len a0) > 20)))))]) σ' ∧ Hp [] [] S' [] [] [] ∧ e' = false) ?_ ?_
 ·revert H
  cases hc1 : (decide ((Sl.len a0) < 2))
  ·intro H
   refine WO.go0 rfl rfl ?_
   refine WS (v := (encSl eS a0)) rfl (nz rfl rfl) ?_
   refine WO.go0 rfl rfl ?_
   refine WS (v := (.int .i64 (Sl.len a0))) rfl (nz rfl (stp_len rfl (isSl_enc _ _) rfl)) ?_
   refine WO.go0 rfl rfl ?_
   refine WS (v := (.bool (decide ((Sl.len a0) > 20)))) rfl (nz rfl rfl) ?_
   refine WS (v := (.bool (decide ((Sl.len a0) > 20)))) rfl (nz rfl rfl) ?_
   refine WO.nil ?_
   exact ⟨(kc rfl (kc rfl known_nil)), H, rfl⟩
  ·intro H
   refine WO.by rfl rfl rfl ?_
   refine WO.by rfl rfl rfl ?_
   refine WO.by rfl rfl rfl ?_
   refine WS (v := .bool true) rfl (nz rfl rfl) ?_
   refine WO.nil ?_
   exact ⟨(kc rfl (kc rfl known_nil)), H, rfl⟩
 ·rintro σ S e ⟨hk, H, rfl⟩
  refine WO.of_known hk ?_
  refine WS (v := (.bool ((decide ((Sl.len a0) < 2)) || (decide ((Sl.len a0) > 20))))) rfl (nz rfl rfl) ?_
  obtain ⟨y6, hy6, hOy6⟩ := bindS h
  refine WO.split 4 (fun σ' S' e' => Known ([(0, (encSl eS a0)), (17, (.bool y6))]) σ' ∧ Hp [] [] S' [] [] [] ∧ e' = false) ?_ ?_
  ·replace h := hy6
   revert H
   cases hc8 : ((decide ((Sl.len a0) < 2)) || (decide ((Sl.len a0) > 20)))
   ·intro H
    replace h := iteF h hc8
    refine WO.go0 rfl rfl ?_
    refine WS (v := (encSl eS a0)) rfl (nz rfl rfl) ?_
    refine WO.go0 rfl rfl ?_
    obtain ⟨y7, hy7, h⟩ := bindS h
    refine WS (v := .str y7) rfl (nz (fz_tmp' (isSl_enc _ _).frz (fz_oth' (fun _ h => by cases h) rfl)) (stp_call (vs := [(encSl eS a0), (.str [])]) rfl rfl (evw_join rfl (isSl_enc _ _) hy7 _))) ?_
    refine WO.go0 rfl rfl ?_
    refine WS (v := (.bool (y7 == []))) rfl (nz rfl rfl) ?_
    refine WS (v := (.bool (y7 == []))) rfl (nz rfl rfl) ?_
    refine WO.nil ?_
    obtain rfl := Option.some.inj h
    exact ⟨(kc rfl (kc rfl known_nil)), (H.sub .slnil .slnil .slnil), rfl⟩
   ·intro H
    replace h := iteT h hc8
    refine WO.by rfl rfl rfl ?_
    refine WO.by rfl rfl rfl ?_
    refine WO.by rfl rfl rfl ?_
    refine WS (v := .bool true) rfl (nz rfl rfl) ?_
    refine WO.nil ?_
    obtain rfl := Option.some.inj h
    exact ⟨(kc rfl (kc rfl known_nil)), (H.sub .slnil .slnil .slnil), rfl⟩
  ·rintro σ S e ⟨hk, H, rfl⟩
   replace h := hOy6
   refine WO.of_known hk ?_
   refine WO.nil ?_
   rcases iteS h with ⟨hc85, h⟩ | ⟨hc85, h⟩
   ·refine WC.condT rfl hc85 ?_
    refine WC.seqR ?_
    refine WS (v := .bool false) rfl (nz rfl rfl) ?_
    refine WO.nil ?_
    refine WC.ret ?_
    refine KX.seq_r ?_
    obtain rfl := Option.some.inj h
    refine KB.ret (vs := [(.bool false)]) (res_tmp rfl res_nil) (fl_cons' rfl rfl) ?_
    exact rfl
   ·refine WC.condF rfl hc85 ?_
    refine WC.skip ?_
    refine KX.seq_n ?_
    refine WC.seq ?_
    refine WC.seqR ?_
    refine WS (v := (encSl eS a0)) rfl (nz rfl rfl) ?_
    refine WS (v := (.int .i64 (Sl.len a0))) rfl (nz rfl (stp_len rfl (isSl_enc _ _) rfl)) ?_
    refine WS (v := .int .i64 0) rfl (nz rfl rfl) ?_
    refine WO.nil ?_
    obtain ⟨y84, hy84, hOy84⟩ := bindS h
    refine WC.block ?_
    refine l34_L0 ?_ ?_ hy84  (kc rfl (kc rfl (kc rfl (kc rfl known_nil)))) (H.sub .slnil .slnil .slnil)
    ·intro y84r he σ S  hk H; subst he; replace h := hOy84; dsimp only at h
     refine KX.of_known hk ?_
     refine KX.block_r ?_
     refine KX.seq_r ?_
     obtain rfl := Option.some.inj h
     refine KB.ret (vs := [(.bool y84r)]) (res_tmp rfl res_nil) (fl_cons' rfl rfl) ?_
     exact rfl
    ·intro y84b he σ S  hk H; subst he; replace h := hOy84; dsimp only at h
     refine KX.of_known hk ?_
     refine KX.block_x ?_
     refine KX.seq_n ?_
     refine WC.seqR ?_
     refine WS (v := .bool true) rfl (nz rfl rfl) ?_
     refine WO.nil ?_
     refine WC.ret ?_
     obtain rfl := Option.some.inj h
     refine KB.ret (vs := [(.bool true)]) (res_tmp rfl res_nil) (fl_cons' rfl rfl) ?_
     exact rfl
def F32 (k : Nat) (rc0 : Api_Filter → Option Bool) (a0 : Api_Filter) : Option Bool :=
 Option.bind (rc0 a0) fun y2 =>
 some (!y2)
theorem s32 {rc0 : Api_Filter → Option Bool} (hrc0 : ∀ {a0 : Api_Filter} {r : Bool}, rc0 a0 = some r → ∀ {vs : List PV}, vs.map PV.strip = [(.agg [(.int .i64 a0.Kind), (.str a0.Attr), (.str a0.Value), (encSl eS a0.Subs), (encSl e_Api_Filter a0.Kids)])] → ∀ S : List SObj, evw env 23 vs S = some ((.bool r), S, false))  : ∀ k : Nat, ∀ {a0 : Api_Filter} {r : Bool}, F32 k rc0 a0 = some r → ∀ {vs : List PV}, vs.map PV.strip = [(.agg [(.int .i64 a0.Kind), (.str a0.Attr), (.str a0.Value), (encSl eS a0.Subs), (encSl e_Api_Filter a0.Kids)])] → ∀ S : List SObj, evw env 32 vs S = some ((.bool r), S, false) := by
 intro k a0 r h vs ha S
 unfold F32 at h
 refine evw_pureW (pf := fn32) rfl rfl ha (Nat.le_of_ble_eq_true rfl) (by simp [PV.clean, cleanL, clean_encSl clean_Api_Filter, clean_encSl clean_eS]) rfl ?_
 refine WB.of (pf := fn32) rfl ?_
 have H := Hp.start []
 refine WC.seqR ?_
 refine WO.box' rfl rfl rfl rfl rfl H ?_
 intro i1 S hi1 H
 refine WS (v := .bool false) rfl (nz rfl rfl) ?_
 refine WO.nil ?_
 refine WC.seqR ?_
 refine WS (v := (.agg [(.int .i64 a0.Kind), (.str a0.Attr), (.str a0.Value), (encSl eS a0.Subs), (encSl e_Api_Filter a0.Kids)])) rfl (nz rfl (stp_load rfl (H.get 0 rfl) rfl)) ?_
 obtain ⟨y2, hy2, h⟩ := bindS h
 refine WS (v := .bool y2) rfl (nz rfl (stp_call (vs := [(.agg [(.int .i64 a0.Kind), (.str a0.Attr), (.str a0.Value), (encSl eS a0.Subs), (encSl e_Api_Filter a0.Kids)])]) rfl rfl (hrc0 hy2 (by simp only [st_agg, List.map_cons, List.map_nil, st1_int, st1_str, strip1_enc, e_Api_Filter_eq, tupled]) _))) ?_
 refine WS (v := (.bool (!y2))) rfl (nz rfl rfl) ?_
 refine WS (v := (.bool (!y2))) rfl (nz rfl rfl) ?_
 refine WO.nil ?_
 refine WC.ret ?_
 obtain rfl := Option.some.inj h
 refine KB.ret (vs := [(.bool (!y2))]) (res_tmp rfl res_nil) (fl_cons' rfl rfl) ?_
 exact rfl
def F42_32_L0 (rc0 : Api_Filter → Option Bool) (k : Nat) (a26 : Sl Api_Filter) (a27 : Int) : Nat → Int → Option (Out Int Int)
 | 0, _ => none
 | n + 1, x28 =>
  if decide (x28 < a27) then
  Option.bind (Sl.at? a26 x28) fun y34 =>
  Option.bind (F32 k rc0 y34) fun y35 =>
  if y35 then
  some (Out.ret x28)
  else
  F42_32_L0 rc0 k a26 a27 n (ad .i64 x28 1)
  else
  some (Out.brk x28)
def F42_32 (k : Nat) (rc0 : Api_Filter → Option Bool) (a0 : Sl Api_Filter) : Option Int :=
 Option.bind (F42_32_L0 rc0 k a0 (Sl.len a0) k 0) fun y39 =>
 match y39 with
 | .ret y39r => some y39r
 | .brk y39b =>
 some (-1)
theorem l42_32_L0 {rc0 : Api_Filter → Option Bool} (hrc0 : ∀ {a0 : Api_Filter} {r : Bool}, rc0 a0 = some r → ∀ {vs : List PV}, vs.map PV.strip = [(.agg [(.int .i64 a0.Kind), (.str a0.Attr), (.str a0.Value), (encSl eS a0.Subs), (encSl e_Api_Filter a0.Kids)])] → ∀ S : List SObj, evw env 23 vs S = some ((.bool r), S, false)) {k : Nat} {a26 : Sl Api_Filter} {a27 : Int} {S0 : List SObj} {R : List Nat} {K : KX}  {o : Out Int Int}
  (hret : ∀ r : Int, o = .ret r → ∀ {σ' : Nat → PV} {S' : List SObj}, Known [(4, (.int .i64 r))] σ' → Hp S0 R S' [] [] [] → K .ret σ' S' false)
  (hbrk : ∀ y : Int, o = .brk y → ∀ {σ' : Nat → PV} {S' : List SObj}, Known [] σ' → Hp S0 R S' [] [] [] → K (.exit 0) σ' S' false) :
  ∀ {n : Nat} {x28 : Int}, F42_32_L0 rc0 k a26 a27 n x28 = some o → ∀ {σ : Nat → PV} {S : List SObj}, Known [(0, (encSl e_Api_Filter a26)), (1, (.fn (.func 32) [] [])), (7, (.int .i64 a27)), (8, (.int .i64 x28))] σ → Hp S0 R S [] [] [] → WC env ⟨19, S0.length⟩ (.loop pc42L0) σ S false K := by
 intro n
 induction n with
 | zero => intro _ h; cases h
 | succ n ih =>
  intro x28 h σ S  hk H
  rw [F42_32_L0] at h
  refine WC.loop ?_
  refine WC.of_known hk ?_
  refine WC.seqR ?_
  refine WS (v := (.bool (decide (x28 < a27)))) rfl (nz rfl rfl) ?_
  refine WO.nil ?_
  refine WC.seq ?_
  rcases iteS h with ⟨hc38, h⟩ | ⟨hc38, h⟩
  ·refine WC.condT rfl hc38 ?_
   refine WC.skip ?_
   refine KX.seq_n ?_
   refine WC.seq ?_
   refine WC.block ?_
   refine WC.seqR ?_
   refine WS (v := .int .i64 x28) rfl (nz rfl rfl) ?_
   refine WS (v := .int .i64 x28) rfl (nz rfl rfl) ?_
   refine WO.nil ?_
   refine WC.seqR ?_
   refine WS (v := (.fn (.func 32) [] [])) rfl (nz rfl rfl) ?_
   refine WS (v := (encSl e_Api_Filter a26)) rfl (nz rfl rfl) ?_
   refine WS (v := .int .i64 x28) rfl (nz rfl rfl) ?_
   obtain ⟨y34, hy34, h⟩ := bindS h
   refine WS (v := (.iptr [(.int .i64 y34.Kind), (.str y34.Attr), (.str y34.Value), (encSl eS y34.Subs), (encSl e_Api_Filter y34.Kids)] 0)) rfl (nz rfl (stp_idxAddr rfl (isSl_enc _ _) rfl rfl rfl hy34 (e_Api_Filter_cells _) rfl)) ?_
   refine WS (v := (.agg [(.int .i64 y34.Kind), (.str y34.Attr), (.str y34.Value), (encSl eS y34.Subs), (encSl e_Api_Filter y34.Kids)])) rfl (nz rfl rfl) ?_
   obtain ⟨y35, hy35, h⟩ := bindS h
   refine WS (v := .bool y35) rfl (nz rfl (stp_call (vs := [(.agg [(.int .i64 y34.Kind), (.str y34.Attr), (.str y34.Value), (encSl eS y34.Subs), (encSl e_Api_Filter y34.Kids)])]) rfl rfl (s32 hrc0 _ hy35 (by simp only [st_agg, List.map_cons, List.map_nil, st1_int, st1_str, strip1_enc, e_Api_Filter_eq, tupled]) _))) ?_
   refine WO.nil ?_
   rcases iteS h with ⟨hc37, h⟩ | ⟨hc37, h⟩
   ·refine WC.condT rfl hc37 ?_
    refine WC.seqR ?_
    refine WS (v := .int .i64 x28) rfl (nz rfl rfl) ?_
    refine WS (v := .int .i64 x28) rfl (nz rfl rfl) ?_
    refine WO.nil ?_
    refine WC.ret ?_
    refine KX.block_r ?_
    refine KX.seq_r ?_
    refine KX.seq_r ?_
    obtain rfl := Option.some.inj h
    exact hret _ rfl (kc rfl known_nil) (H.sub .slnil .slnil .slnil)
   ·refine WC.condF rfl hc37 ?_
    refine WC.skip ?_
    refine KX.block_n ?_
    refine KX.seq_n ?_
    refine WC.region ?_
    refine WS (v := (.int .i64 (ad .i64 x28 1))) rfl (nz rfl rfl) ?_
    refine WS (v := (.int .i64 (ad .i64 x28 1))) rfl (nz rfl rfl) ?_
    refine WO.nil ?_
    refine KX.seq_n ?_
    exact ih h  (kc rfl (kc rfl (kc rfl (kc rfl known_nil)))) (H.sub .slnil .slnil .slnil)
  ·refine WC.condF rfl hc38 ?_
   refine WC.exit ?_
   refine KX.seq_x ?_
   refine KX.seq_x ?_
   obtain rfl := Option.some.inj h
   exact hbrk _ rfl  known_nil (H.sub .slnil .slnil .slnil)
theorem s42_32 {rc0 : Api_Filter → Option Bool} (hrc0 : ∀ {a0 : Api_Filter} {r : Bool}, rc0 a0 = some r → ∀ {vs : List PV}, vs.map PV.strip = [(.agg [(.int .i64 a0.Kind), (.str a0.Attr), (.str a0.Value), (encSl eS a0.Subs), (encSl e_Api_Filter a0.Kids)])] → ∀ S : List SObj, evw env 23 vs S = some ((.bool r), S, false))  : ∀ k : Nat, ∀ {a0 : Sl Api_Filter} {r : Int}, F42_32 k rc0 a0 = some r → ∀ {vs : List PV}, vs.map PV.strip = [(encSl e_Api_Filter a0), (.fn (.func 32) [] [])] → ∀ S : List SObj, evw env 42 vs S = some ((.int .i64 r), S, false) := by
 intro k a0 r h vs ha S
 unfold F42_32 at h
 refine evw_pureW (pf := fn42) rfl rfl ha (Nat.le_of_ble_eq_true rfl) (by simp [PV.clean, cleanL, clean_encSl clean_Api_Filter]) rfl ?_
 refine WB.of (pf := fn42) rfl ?_
 have H := Hp.start []
 refine WC.seqR ?_
 refine WS (v := .int .i64 0) rfl (nz rfl rfl) ?_
 refine WO.nil ?_
 refine WC.seq ?_
 refine WC.seqR ?_
 refine WS (v := (encSl e_Api_Filter a0)) rfl (nz rfl rfl) ?_
 refine WS (v := (.int .i64 (Sl.len a0))) rfl (nz rfl (stp_len rfl (isSl_enc _ _) rfl)) ?_
 refine WS (v := .int .i64 0) rfl (nz rfl rfl) ?_
 refine WO.nil ?_
 obtain ⟨y39, hy39, hOy39⟩ := bindS h
 refine WC.block ?_
 refine l42_32_L0 hrc0 ?_ ?_ hy39  (kc rfl (kc rfl (kc rfl (kc rfl known_nil)))) (H.sub .slnil .slnil .slnil)
 ·intro y39r he σ S  hk H; subst he; replace h := hOy39; dsimp only at h
  refine KX.of_known hk ?_
  refine KX.block_r ?_
  refine KX.seq_r ?_
  obtain rfl := Option.some.inj h
  refine KB.ret (vs := [(.int .i64 y39r)]) (res_tmp rfl res_nil) (fl_cons' rfl rfl) ?_
  exact rfl
 ·intro y39b he σ S  hk H; subst he; replace h := hOy39; dsimp only at h
  refine KX.of_known hk ?_
  refine KX.block_x ?_
  refine KX.seq_n ?_
  refine WC.seqR ?_
  refine WS (v := (.int .i64 (-1))) rfl (nz rfl rfl) ?_
  refine WO.nil ?_
  refine WC.ret ?_
  obtain rfl := Option.some.inj h
  refine KB.ret (vs := [(.int .i64 (-1))]) (res_tmp rfl res_nil) (fl_cons' rfl rfl) ?_
  exact rfl
def F31_32 (k : Nat) (rc0 : Api_Filter → Option Bool) (a0 : Sl Api_Filter) : Option Bool :=
 Option.bind (F42_32 k rc0 a0) fun y1 =>
 some (decide (y1 ≥ 0))
theorem s31_32 {rc0 : Api_Filter → Option Bool} (hrc0 : ∀ {a0 : Api_Filter} {r : Bool}, rc0 a0 = some r → ∀ {vs : List PV}, vs.map PV.strip = [(.agg [(.int .i64 a0.Kind), (.str a0.Attr), (.str a0.Value), (encSl eS a0.Subs), (encSl e_Api_Filter a0.Kids)])] → ∀ S : List SObj, evw env 23 vs S = some ((.bool r), S, false))  : ∀ k : Nat, ∀ {a0 : Sl Api_Filter} {r : Bool}, F31_32 k rc0 a0 = some r → ∀ {vs : List PV}, vs.map PV.strip = [(encSl e_Api_Filter a0), (.fn (.func 32) [] [])] → ∀ S : List SObj, evw env 31 vs S = some ((.bool r), S, false) := by
 intro k a0 r h vs ha S
 unfold F31_32 at h
 refine evw_pureW (pf := fn31) rfl rfl ha (Nat.le_of_ble_eq_true rfl) (by simp [PV.clean, cleanL, clean_encSl clean_Api_Filter]) rfl ?_
 refine WB.of (pf := fn31) rfl ?_
 have H := Hp.start []
 refine WC.seqR ?_
 refine WS (v := .bool false) rfl (nz rfl rfl) ?_
 refine WO.nil ?_
 refine WC.seqR ?_
 refine WS (v := (encSl e_Api_Filter a0)) rfl (nz rfl rfl) ?_
 refine WS (v := (.fn (.func 32) [] [])) rfl (nz rfl rfl) ?_
 obtain ⟨y1, hy1, h⟩ := bindS h
 refine WS (v := .int .i64 y1) rfl (nz (fz_tmp' (isSl_enc _ _).frz (fz_tmp' rfl rfl)) (stp_call (vs := [(encSl e_Api_Filter a0), (.fn (.func 32) [] [])]) rfl rfl (s42_32 hrc0 _ hy1 (by simp only [strip_enc, st_fn, List.map_cons, List.map_nil, tupled]) _))) ?_
 refine WS (v := (.bool (decide (y1 ≥ 0)))) rfl (nz rfl rfl) ?_
 refine WS (v := (.bool (decide (y1 ≥ 0)))) rfl (nz rfl rfl) ?_
 refine WO.nil ?_
 refine WC.ret ?_
 obtain rfl := Option.some.inj h
 refine KB.ret (vs := [(.bool (decide (y1 ≥ 0)))]) (res_tmp rfl res_nil) (fl_cons' rfl rfl) ?_
 exact rfl
def F33_L0 (k : Nat) (a997 : Sl Int) (a999 : Int) : Nat → Int → Option (Out Bool Int)
 | 0, _ => none
 | n + 1, x1000 =>
  if decide (x1000 < a999) then
  Option.bind (Sl.at? a997 x1000) fun y1244 =>
  Option.bind (if (decide (y1244 ≥ 97)) && (decide (y1244 ≤ 122)) then
  some (Out.brk ())
  else
  Option.bind (if (decide (y1244 ≥ 48)) && (decide (y1244 ≤ 57)) then
  some ((decide (y1244 ≥ 48)) && (decide (y1244 ≤ 57)))
  else
  some (y1244 == 45)) fun y1481 =>
  if y1481 then
  some (Out.brk ())
  else
  some (Out.ret (Out.ret false))) fun y1405 =>
  match y1405 with
  | .ret r => some r
  | .brk y1405b =>
  F33_L0 k a997 a999 n (ad .i64 x1000 1)
  else
  some (Out.brk x1000)
def F33 (k : Nat) (a0 : Str) : Option Bool :=
 Option.bind (if (a0 == []) || (decide ((Str.len a0) > 16)) then
 some true
 else
 Option.bind (Str.at? a0 0) fun c7 =>
 some (decide (c7 < 97))) fun y6 =>
 Option.bind (if y6 then
 some true
 else
 Option.bind (Str.at? a0 0) fun c14 =>
 some (decide (c14 > 122))) fun y13 =>
 if y13 then
 some false
 else
 Option.bind (F33_L0 k (Str.bytes a0) (Sl.len (Str.bytes a0)) k 0) fun y1487 =>
 match y1487 with
 | .ret y1487r => some y1487r
 | .brk y1487b =>
 some true
theorem l33_L0 {k : Nat} {a997 : Sl Int} {a999 : Int} {S0 : List SObj} {R : List Nat} {K : KX} {v998 : PV} (hv998 : IsSl (eI .u8) a997 v998)  {o : Out Bool Int}
  (hret : ∀ r : Bool, o = .ret r → ∀ {σ' : Nat → PV} {S' : List SObj}, Known [(2, (.bool r))] σ' → Hp S0 R S' [] [] [] → K .ret σ' S' false)
  (hbrk : ∀ y : Int, o = .brk y → ∀ {σ' : Nat → PV} {S' : List SObj}, Known [] σ' → Hp S0 R S' [] [] [] → K (.exit 0) σ' S' false) :
  ∀ {n : Nat} {x1000 : Int}, F33_L0 k a997 a999 n x1000 = some o → ∀ {σ : Nat → PV} {S : List SObj}, Known [(23, v998), (24, (.int .i64 a999)), (25, (.int .i64 x1000))] σ → Hp S0 R S [] [] [] → WC env ⟨46, S0.length⟩ (.loop pc33L0) σ S false K := by
 intro n
 induction n with
 | zero => intro _ h; cases h
 | succ n ih =>
  intro x1000 h σ S  hk H
  rw [F33_L0] at h
  refine WC.loop ?_
  refine WC.of_known hk ?_
  refine WC.seqR ?_
  refine WS (v := (.bool (decide (x1000 < a999)))) rfl (nz rfl rfl) ?_
  refine WO.nil ?_
  refine WC.seq ?_
  rcases iteS h with ⟨hc1486, h⟩ | ⟨hc1486, h⟩
  ·refine WC.condT rfl hc1486 ?_
   refine WC.skip ?_
   refine KX.seq_n ?_
   refine WC.seq ?_
   refine WC.block ?_
   refine WC.seqR ?_
   obtain ⟨y1244, hy1244, h⟩ := bindS h
   refine WS (v := (.iptr [(.int .u8 y1244)] 0)) rfl (nz rfl (stp_idxAddr rfl hv998 rfl rfl rfl hy1244 rfl rfl)) ?_
   refine WS (v := .int .u8 y1244) rfl (nz rfl rfl) ?_
   refine WS (v := .int .u8 y1244) rfl (nz rfl rfl) ?_
   refine WO.nil ?_
   obtain ⟨y1405, hy1405, hOy1405⟩ := bindS h
   refine WC.join (fun σ' S' e' => ∃ y1405b, y1405 = .brk y1405b ∧ Known ([(23, v998), (24, (.int .i64 a999)), (25, (.int .i64 x1000))]) σ' ∧ Hp S0 R S' [] [] [] ∧ e' = false) ?_ ?_
   ·replace h := hy1405
    refine WC.block ?_
    refine WC.seq ?_
    refine WC.block ?_
    refine WC.seq ?_
    refine WC.block ?_
    refine WC.block ?_
    refine WC.seq ?_
    refine WC.seq ?_
    refine WC.seqR ?_
    refine WS (v := .int .u8 y1244) rfl (nz rfl rfl) ?_
    refine WS (v := (.bool (decide (y1244 ≥ 97)))) rfl (nz rfl rfl) ?_
    refine WS (v := (.bool (decide (y1244 ≥ 97)))) rfl (nz rfl rfl) ?_
    refine WO.split 3 (fun σ' S' e' => Known ([(4, (.int .u8 y1244)), (23, v998), (24, (.int .i64 a999)), (25, (.int .i64 x1000)), (35, (.bool ((decide (y1244 ≥ 97)) && (decide (y1244 ≤ 122)))))]) σ' ∧ Hp S0 R S' [] [] [] ∧ e' = false) ?_ ?_
    ·revert H
     cases hc1476 : (decide (y1244 ≥ 97))
     ·intro H
      refine WO.by rfl rfl rfl ?_
      refine WO.by rfl rfl rfl ?_
      refine WS (v := .bool false) rfl (nz rfl rfl) ?_
      refine WO.nil ?_
      exact ⟨(kc rfl (kc rfl (kc rfl (kc rfl (kc rfl known_nil))))), H, rfl⟩
     ·intro H
      refine WO.go0 rfl rfl ?_
      refine WS (v := .int .u8 y1244) rfl (nz rfl rfl) ?_
      refine WO.go0 rfl rfl ?_
      refine WS (v := (.bool (decide (y1244 ≤ 122)))) rfl (nz rfl rfl) ?_
      refine WS (v := (.bool (decide (y1244 ≤ 122)))) rfl (nz rfl rfl) ?_
      refine WO.nil ?_
      exact ⟨(kc rfl (kc rfl (kc rfl (kc rfl (kc rfl known_nil))))), H, rfl⟩
    ·rintro σ S e ⟨hk, H, rfl⟩
     refine WO.of_known hk ?_
     refine WS (v := (.bool ((decide (y1244 ≥ 97)) && (decide (y1244 ≤ 122))))) rfl (nz rfl rfl) ?_
     refine WO.nil ?_
     rcases iteS h with ⟨hc1485, h⟩ | ⟨hc1485, h⟩
     ·refine WC.condT rfl hc1485 ?_
      refine WC.exit ?_
      refine KX.seq_x ?_
      refine KX.seq_x ?_
      refine KX.block_x ?_
      refine KX.block_n ?_
      refine KX.seq_n ?_
      refine WC.exit ?_
      refine KX.block_y rfl ?_
      refine KX.seq_x ?_
      refine KX.block_x ?_
      refine KX.seq_n ?_
      obtain rfl := Option.some.inj h
      exact ⟨_, rfl, (kc rfl (kc rfl (kc rfl known_nil))), (H.sub .slnil .slnil .slnil), rfl⟩
     ·refine WC.condF rfl hc1485 ?_
      refine WC.skip ?_
      refine KX.seq_n ?_
      refine WC.seq ?_
      refine WC.seqR ?_
      refine WS (v := .int .u8 y1244) rfl (nz rfl rfl) ?_
      refine WS (v := (.bool (decide (y1244 ≥ 48)))) rfl (nz rfl rfl) ?_
      refine WS (v := (.bool (decide (y1244 ≥ 48)))) rfl (nz rfl rfl) ?_
      refine WO.split 3 (fun σ' S' e' => Known ([(4, (.int .u8 y1244)), (23, v998), (24, (.int .i64 a999)), (25, (.int .i64 x1000)), (42, (.bool ((decide (y1244 ≥ 48)) && (decide (y1244 ≤ 57)))))]) σ' ∧ Hp S0 R S' [] [] [] ∧ e' = false) ?_ ?_
      ·revert H
       cases hc1478 : (decide (y1244 ≥ 48))
       ·intro H
        refine WO.by rfl rfl rfl ?_
        refine WO.by rfl rfl rfl ?_
        refine WS (v := .bool false) rfl (nz rfl rfl) ?_
        refine WO.nil ?_
        exact ⟨(kc rfl (kc rfl (kc rfl (kc rfl (kc rfl known_nil))))), H, rfl⟩
       ·intro H
        refine WO.go0 rfl rfl ?_
        refine WS (v := .int .u8 y1244) rfl (nz rfl rfl) ?_
        refine WO.go0 rfl rfl ?_
        refine WS (v := (.bool (decide (y1244 ≤ 57)))) rfl (nz rfl rfl) ?_
        refine WS (v := (.bool (decide (y1244 ≤ 57)))) rfl (nz rfl rfl) ?_
        refine WO.nil ?_
        exact ⟨(kc rfl (kc rfl (kc rfl (kc rfl (kc rfl known_nil))))), H, rfl⟩
      ·rintro σ S e ⟨hk, H, rfl⟩
       refine WO.of_known hk ?_
       refine WS (v := (.bool ((decide (y1244 ≥ 48)) && (decide (y1244 ≤ 57))))) rfl (nz rfl rfl) ?_
       refine WO.nil ?_
       obtain ⟨y1481, hy1481, hOy1481⟩ := bindS h
       refine WC.join (fun σ' S' e' => Known ([(23, v998), (24, (.int .i64 a999)), (25, (.int .i64 x1000)), (36, (.bool y1481))]) σ' ∧ Hp S0 R S' [] [] [] ∧ e' = false) ?_ ?_
       ·replace h := hy1481
        rcases iteS h with ⟨hc1482, h⟩ | ⟨hc1482, h⟩
        ·refine WC.condT rfl hc1482 ?_
         refine WC.skip ?_
         refine KX.seq_n ?_
         obtain rfl := Option.some.inj h
         exact ⟨(kc rfl (kc rfl (kc rfl (kc rfl known_nil)))), (H.sub .slnil .slnil .slnil), rfl⟩
        ·refine WC.condF rfl hc1482 ?_
         refine WC.region ?_
         refine WS (v := .int .u8 y1244) rfl (nz rfl rfl) ?_
         refine WS (v := (.bool (y1244 == 45))) rfl (nz rfl rfl) ?_
         refine WS (v := (.bool (y1244 == 45))) rfl (nz rfl rfl) ?_
         refine WO.nil ?_
         refine KX.seq_n ?_
         obtain rfl := Option.some.inj h
         exact ⟨(kc rfl (kc rfl (kc rfl (kc rfl known_nil)))), (H.sub .slnil .slnil .slnil), rfl⟩
       ·rintro σ S e ⟨hk, H, rfl⟩
        replace h := hOy1481
        refine KX.of_known hk ?_
        refine KX.seq_n ?_
        rcases iteS h with ⟨hc1484, h⟩ | ⟨hc1484, h⟩
        ·refine WC.condT rfl hc1484 ?_
         refine WC.exit ?_
         refine KX.seq_x ?_
         refine KX.block_y rfl ?_
         refine KX.block_x ?_
         refine KX.seq_n ?_
         refine WC.exit ?_
         refine KX.block_y rfl ?_
         refine KX.seq_x ?_
         refine KX.block_x ?_
         refine KX.seq_n ?_
         obtain rfl := Option.some.inj h
         exact ⟨_, rfl, (kc rfl (kc rfl (kc rfl known_nil))), (H.sub .slnil .slnil .slnil), rfl⟩
        ·refine WC.condF rfl hc1484 ?_
         refine WC.skip ?_
         refine KX.seq_n ?_
         refine WC.exit ?_
         refine KX.block_y rfl ?_
         refine KX.block_y rfl ?_
         refine KX.seq_x ?_
         refine KX.block_x ?_
         refine KX.seq_n ?_
         refine WC.seq ?_
         refine WC.seqR ?_
         refine WS (v := .bool false) rfl (nz rfl rfl) ?_
         refine WO.nil ?_
         refine WC.ret ?_
         refine KX.seq_r ?_
         refine KX.block_r ?_
         refine KX.seq_r ?_
         obtain rfl := Option.some.inj h
         replace h := hOy1405
         refine KX.block_r ?_
         refine KX.seq_r ?_
         refine KX.seq_r ?_
         obtain rfl := Option.some.inj h
         exact hret _ rfl (kc rfl known_nil) (H.sub .slnil .slnil .slnil)
   ·rintro σ S e ⟨y1405b, rfl, hk, H, rfl⟩
    replace h := hOy1405
    dsimp only at h
    refine KX.of_known hk ?_
    refine KX.block_n ?_
    refine KX.seq_n ?_
    refine WC.region ?_
    refine WS (v := (.int .i64 (ad .i64 x1000 1))) rfl (nz rfl rfl) ?_
    refine WS (v := (.int .i64 (ad .i64 x1000 1))) rfl (nz rfl rfl) ?_
    refine WO.nil ?_
    refine KX.seq_n ?_
    exact ih h  (kc rfl (kc rfl (kc rfl known_nil))) (H.sub .slnil .slnil .slnil)
  ·refine WC.condF rfl hc1486 ?_
   refine WC.exit ?_
   refine KX.seq_x ?_
   refine KX.seq_x ?_
   obtain rfl := Option.some.inj h
   exact hbrk _ rfl  known_nil (H.sub .slnil .slnil .slnil)
theorem s33 : ∀ k : Nat, ∀ {a0 : Str} {r : Bool}, F33 k a0 = some r → ∀ {vs : List PV}, vs.map PV.strip = [(.str a0)] → ∀ S : List SObj, evw env 33 vs S = some ((.bool r), S, false) := by
 intro k a0 r h vs ha S
 unfold F33 at h
 refine evw_pureW (pf := fn33) rfl rfl ha (Nat.le_of_ble_eq_true rfl) rfl rfl ?_
 refine WB.of (pf := fn33) rfl ?_
 have H := Hp.start []
 refine WC.seqR ?_
 refine WS (v := .bool false) rfl (nz rfl rfl) ?_
 refine WO.nil ?_
 refine WC.seq ?_
 refine WC.seqR ?_
 refine WS (v := .str a0) rfl (nz rfl rfl) ?_
 refine WS (v := (.bool (a0 == []))) rfl (nz rfl rfl) ?_
 refine WS (v := (.bool (a0 == []))) rfl (nz rfl rfl) ?_
 refine WO.split 4 (fun σ' S' e' => Known ([(0, (.str a0)), (11, (.bool ((a0 == []) || (decide ((Str.len a0) > 16)))))]) σ' ∧ Hp [] [] S' [] [] [] ∧ e' = false) ?_ ?_
 ·revert H
  cases hc1 : (a0 == [])
  ·intro H
   refine WO.go0 rfl rfl ?_
   refine WS (v := .str a0) rfl (nz rfl rfl) ?_
   refine WO.go0 rfl rfl ?_
   refine WS (v := (.int .i64 (Str.len a0))) rfl (nz rfl rfl) ?_
   refine WO.go0 rfl rfl ?_
   refine WS (v := (.bool (decide ((Str.len a0) > 16)))) rfl (nz rfl rfl) ?_
   refine WS (v := (.bool (decide ((Str.len a0) > 16)))) rfl (nz rfl rfl) ?_
   refine WO.nil ?_
   exact ⟨(kc rfl (kc rfl known_nil)), H, rfl⟩
  ·intro H
   refine WO.by rfl rfl rfl ?_
   refine WO.by rfl rfl rfl ?_
   refine WO.by rfl rfl rfl ?_
   refine WS (v := .bool true) rfl (nz rfl rfl) ?_
   refine WO.nil ?_
   exact ⟨(kc rfl (kc rfl known_nil)), H, rfl⟩
 ·rintro σ S e ⟨hk, H, rfl⟩
  refine WO.of_known hk ?_
  refine WS (v := (.bool ((a0 == []) || (decide ((Str.len a0) > 16))))) rfl (nz rfl rfl) ?_
  obtain ⟨y6, hy6, hOy6⟩ := bindS h
  refine WO.split 4 (fun σ' S' e' => Known ([(0, (.str a0)), (16, (.bool y6))]) σ' ∧ Hp [] [] S' [] [] [] ∧ e' = false) ?_ ?_
  ·replace h := hy6
   revert H
   cases hc8 : ((a0 == []) || (decide ((Str.len a0) > 16)))
   ·intro H
    replace h := iteF h hc8
    refine WO.go0 rfl rfl ?_
    refine WS (v := .str a0) rfl (nz rfl rfl) ?_
    refine WO.go0 rfl rfl ?_
    obtain ⟨c7, hc7, h⟩ := bindS h
    refine WS (v := .int .u8 c7) rfl (nz rfl (stp_idxStr rfl rfl rfl hc7)) ?_
    refine WO.go0 rfl rfl ?_
    refine WS (v := (.bool (decide (c7 < 97)))) rfl (nz rfl rfl) ?_
    refine WS (v := (.bool (decide (c7 < 97)))) rfl (nz rfl rfl) ?_
    refine WO.nil ?_
    obtain rfl := Option.some.inj h
    exact ⟨(kc rfl (kc rfl known_nil)), (H.sub .slnil .slnil .slnil), rfl⟩
   ·intro H
    replace h := iteT h hc8
    refine WO.by rfl rfl rfl ?_
    refine WO.by rfl rfl rfl ?_
    refine WO.by rfl rfl rfl ?_
    refine WS (v := .bool true) rfl (nz rfl rfl) ?_
    refine WO.nil ?_
    obtain rfl := Option.some.inj h
    exact ⟨(kc rfl (kc rfl known_nil)), (H.sub .slnil .slnil .slnil), rfl⟩
  ·rintro σ S e ⟨hk, H, rfl⟩
   replace h := hOy6
   refine WO.of_known hk ?_
   refine WS (v := .bool y6) rfl (nz rfl rfl) ?_
   obtain ⟨y13, hy13, hOy13⟩ := bindS h
   refine WO.split 4 (fun σ' S' e' => Known ([(0, (.str a0)), (21, (.bool y13))]) σ' ∧ Hp [] [] S' [] [] [] ∧ e' = false) ?_ ?_
   ·replace h := hy13
    revert H
    cases hc15 : y6
    ·intro H
     replace h := iteF h hc15
     refine WO.go0 rfl rfl ?_
     refine WS (v := .str a0) rfl (nz rfl rfl) ?_
     refine WO.go0 rfl rfl ?_
     obtain ⟨c14, hc14, h⟩ := bindS h
     refine WS (v := .int .u8 c14) rfl (nz rfl (stp_idxStr rfl rfl rfl hc14)) ?_
     refine WO.go0 rfl rfl ?_
     refine WS (v := (.bool (decide (c14 > 122)))) rfl (nz rfl rfl) ?_
     refine WS (v := (.bool (decide (c14 > 122)))) rfl (nz rfl rfl) ?_
     refine WO.nil ?_
     obtain rfl := Option.some.inj h
     exact ⟨(kc rfl (kc rfl known_nil)), (H.sub .slnil .slnil .slnil), rfl⟩
    ·intro H
     replace h := iteT h hc15
     refine WO.by rfl rfl rfl ?_
     refine WO.by rfl rfl rfl ?_
     refine WO.by rfl rfl rfl ?_
     refine WS (v := .bool true) rfl (nz rfl rfl) ?_
     refine WO.nil ?_
     obtain rfl := Option.some.inj h
     exact ⟨(kc rfl (kc rfl known_nil)), (H.sub .slnil .slnil .slnil), rfl⟩
   ·rintro σ S e ⟨hk, H, rfl⟩
    replace h := hOy13
    refine WO.of_known hk ?_
    refine WO.nil ?_
    rcases iteS h with ⟨hc1488, h⟩ | ⟨hc1488, h⟩
    ·refine WC.condT rfl hc1488 ?_
     refine WC.seqR ?_
     refine WS (v := .bool false) rfl (nz rfl rfl) ?_
     refine WO.nil ?_
     refine WC.ret ?_
     refine KX.seq_r ?_
     obtain rfl := Option.some.inj h
     refine KB.ret (vs := [(.bool false)]) (res_tmp rfl res_nil) (fl_cons' rfl rfl) ?_
     exact rfl
    ·refine WC.condF rfl hc1488 ?_
     refine WC.skip ?_
     refine KX.seq_n ?_
     refine WC.seq ?_
     refine WC.seqR ?_
     refine WS (v := .str a0) rfl (nz rfl rfl) ?_
     refine WO.ex rfl (nzx rfl (stp_bytes rfl rfl rfl rfl H)) ?_
     rintro v17 S ⟨hv17, H⟩
     replace H : Hp [] [] _ [] [(v17, 1)] [] := H
     refine WS (v := (.int .i64 (Sl.len (Str.bytes a0)))) rfl (nz rfl (stp_len rfl hv17 rfl)) ?_
     refine WS (v := .int .i64 0) rfl (nz rfl rfl) ?_
     refine WO.nil ?_
     obtain ⟨y1487, hy1487, hOy1487⟩ := bindS h
     refine WC.block ?_
     refine l33_L0 (hv17) ?_ ?_ hy1487  (kc rfl (kc rfl (kc rfl known_nil))) (H.sub .slnil (.cons _ .slnil) .slnil)
     ·intro y1487r he σ S  hk H; subst he; replace h := hOy1487; dsimp only at h
      refine KX.of_known hk ?_
      refine KX.block_r ?_
      refine KX.seq_r ?_
      obtain rfl := Option.some.inj h
      refine KB.ret (vs := [(.bool y1487r)]) (res_tmp rfl res_nil) (fl_cons' rfl rfl) ?_
      exact rfl
     ·intro y1487b he σ S  hk H; subst he; replace h := hOy1487; dsimp only at h
      refine KX.of_known hk ?_
      refine KX.block_x ?_
      refine KX.seq_n ?_
      refine WC.seqR ?_
      refine WS (v := .bool true) rfl (nz rfl rfl) ?_
      refine WO.nil ?_
      refine WC.ret ?_
      obtain rfl := Option.some.inj h
      refine KB.ret (vs := [(.bool true)]) (res_tmp rfl res_nil) (fl_cons' rfl rfl) ?_
      exact rfl
def F23 : Nat → Api_Filter → Option Bool
 | 0, _ => none
 | k + 1, a0 =>
  if a0.Kind == 3 then
  if (Sl.len a0.Kids) != 1 then
  some false
  else
  Option.bind (if ((a0.Attr == []) && (a0.Value == [])) && ((Sl.len a0.Subs) == 0) then
  Option.bind (F31_32 k (F23 k) a0.Kids) fun y2295 =>
  some (!y2295)
  else
  some false) fun y2294 =>
  some y2294
  else
  Option.bind (if a0.Kind == 1 then
  some (a0.Kind == 1)
  else
  some (a0.Kind == 2)) fun y2300 =>
  if y2300 then
  Option.bind (if ((a0.Attr == []) && (a0.Value == [])) && ((Sl.len a0.Subs) == 0) then
  Option.bind (F31_32 k (F23 k) a0.Kids) fun y2310 =>
  some (!y2310)
  else
  some false) fun y2309 =>
  some y2309
  else
  if a0.Kind == 7 then
  Option.bind (F33 k a0.Attr) fun y2313 =>
  some (((y2313 && (a0.Value == [])) && ((Sl.len a0.Subs) == 0)) && ((Sl.len a0.Kids) == 0))
  else
  if a0.Kind == 8 then
  Option.bind (F33 k a0.Attr) fun y2318 =>
  Option.bind (if (y2318 && (a0.Value == [])) && ((Sl.len a0.Kids) == 0) then
  Option.bind (F34 k a0.Subs) fun y2326 =>
  some y2326
  else
  some false) fun y2325 =>
  some y2325
  else
  Option.bind (if a0.Kind == 4 then
  some (a0.Kind == 4)
  else
  Option.bind (if a0.Kind == 5 then
  some (a0.Kind == 5)
  else
  some (a0.Kind == 6)) fun y2341 =>
  some y2341) fun y2338 =>
  if y2338 then
  Option.bind (F33 k a0.Attr) fun y2345 =>
  some (((y2345 && (decide ((Str.len a0.Value) ≤ 60))) && ((Sl.len a0.Subs) == 0)) && ((Sl.len a0.Kids) == 0))
  else
  some false
theorem s23 : ∀ k : Nat, ∀ {a0 : Api_Filter} {r : Bool}, F23 k a0 = some r → ∀ {vs : List PV}, vs.map PV.strip = [(.agg [(.int .i64 a0.Kind), (.str a0.Attr), (.str a0.Value), (encSl eS a0.Subs), (encSl e_Api_Filter a0.Kids)])] → ∀ S : List SObj, evw env 23 vs S = some ((.bool r), S, false) := by
 intro k
 induction k with
 | zero => intro _ r h; cases h
 | succ k ih =>
  intro a0 r h vs ha S
  rw [F23] at h
  refine evw_pureW (pf := fn23) rfl rfl ha (Nat.le_of_ble_eq_true rfl) (by simp [PV.clean, cleanL, clean_encSl clean_Api_Filter, clean_encSl clean_eS]) rfl ?_
  refine WB.of (pf := fn23) rfl ?_
  have H := Hp.start []
  refine WC.seqR ?_
  refine WO.box' rfl rfl rfl rfl rfl H ?_
  intro i1 S hi1 H
  refine WS (v := .bool false) rfl (nz rfl rfl) ?_
  refine WO.nil ?_
  refine WC.seq ?_
  refine WC.seqR ?_
  refine WS (v := .ptr i1 0) rfl (nz rfl rfl) ?_
  refine WS (v := .int .i64 a0.Kind) rfl (nz rfl (stp_load rfl (H.get 0 rfl) rfl)) ?_
  refine WO.nil ?_
  refine WC.block ?_
  refine WC.seq ?_
  refine WC.block ?_
  refine WC.seq ?_
  refine WC.block ?_
  refine WC.seq ?_
  refine WC.block ?_
  refine WC.seq ?_
  refine WC.block ?_
  refine WC.seq ?_
  refine WC.block ?_
  refine WC.seq ?_
  refine WC.seq ?_
  refine WC.seqR ?_
  refine WS (v := (.bool (a0.Kind == 3))) rfl (nz rfl rfl) ?_
  refine WS (v := (.bool (a0.Kind == 3))) rfl (nz rfl rfl) ?_
  refine WO.nil ?_
  rcases iteS h with ⟨hc2353, h⟩ | ⟨hc2353, h⟩
  ·refine WC.condT rfl hc2353 ?_
   refine WC.exit ?_
   refine KX.seq_x ?_
   refine KX.seq_x ?_
   refine KX.block_x ?_
   refine KX.seq_n ?_
   refine WC.seqR ?_
   refine WS (v := .ptr i1 4) rfl (nz rfl rfl) ?_
   refine WS (v := (encSl e_Api_Filter a0.Kids)) rfl (nz rfl (stp_load rfl (H.get 0 rfl) rfl)) ?_
   refine WS (v := (.int .i64 (Sl.len a0.Kids))) rfl (nz rfl (stp_len rfl (isSl_enc _ _) rfl)) ?_
   refine WS (v := (.bool ((Sl.len a0.Kids) != 1))) rfl (nz rfl rfl) ?_
   refine WO.nil ?_
   rcases iteS h with ⟨hc2297, h⟩ | ⟨hc2297, h⟩
   ·refine WC.condT rfl hc2297 ?_
    refine WC.seqR ?_
    refine WS (v := .bool false) rfl (nz rfl rfl) ?_
    refine WO.nil ?_
    refine WC.ret ?_
    refine KX.block_r ?_
    refine KX.seq_r ?_
    refine KX.block_r ?_
    refine KX.seq_r ?_
    refine KX.block_r ?_
    refine KX.seq_r ?_
    refine KX.block_r ?_
    refine KX.seq_r ?_
    refine KX.block_r ?_
    refine KX.seq_r ?_
    obtain rfl := Option.some.inj h
    refine KB.ret (vs := [(.bool false)]) (res_tmp rfl res_nil) (fl_cons' rfl rfl) ?_
    exact rfl
   ·refine WC.condF rfl hc2297 ?_
    refine WC.skip ?_
    refine KX.block_n ?_
    refine KX.seq_n ?_
    refine WC.seq ?_
    refine WC.seqR ?_
    refine WS (v := .ptr i1 1) rfl (nz rfl rfl) ?_
    refine WS (v := .str a0.Attr) rfl (nz rfl (stp_load rfl (H.get 0 rfl) rfl)) ?_
    refine WS (v := (.bool (a0.Attr == []))) rfl (nz rfl rfl) ?_
    refine WS (v := (.bool (a0.Attr == []))) rfl (nz rfl rfl) ?_
    refine WO.split 4 (fun σ' S' e' => Known ([(1, (.ptr i1 0)), (29, (.bool ((a0.Attr == []) && (a0.Value == []))))]) σ' ∧ Hp [] [] S' [(i1, .cells [(.int .i64 a0.Kind), (.str a0.Attr), (.str a0.Value), (encSl eS a0.Subs), (encSl e_Api_Filter a0.Kids)])] [] [] ∧ e' = false) ?_ ?_
    ·revert H
     cases hc2288 : (a0.Attr == [])
     ·intro H
      refine WO.by rfl rfl rfl ?_
      refine WO.by rfl rfl rfl ?_
      refine WO.by rfl rfl rfl ?_
      refine WS (v := .bool false) rfl (nz rfl rfl) ?_
      refine WO.nil ?_
      exact ⟨(kc rfl (kc rfl known_nil)), H, rfl⟩
     ·intro H
      refine WO.go0 rfl rfl ?_
      refine WS (v := .ptr i1 2) rfl (nz rfl rfl) ?_
      refine WO.go0 rfl rfl ?_
      refine WS (v := .str a0.Value) rfl (nz rfl (stp_load rfl (H.get 0 rfl) rfl)) ?_
      refine WO.go0 rfl rfl ?_
      refine WS (v := (.bool (a0.Value == []))) rfl (nz rfl rfl) ?_
      refine WS (v := (.bool (a0.Value == []))) rfl (nz rfl rfl) ?_
      refine WO.nil ?_
      exact ⟨(kc rfl (kc rfl known_nil)), H, rfl⟩
    ·rintro σ S e ⟨hk, H, rfl⟩
     refine WO.of_known hk ?_
     refine WS (v := (.bool ((a0.Attr == []) && (a0.Value == [])))) rfl (nz rfl rfl) ?_
     refine WO.split 5 (fun σ' S' e' => Known ([(1, (.ptr i1 0)), (35, (.bool (((a0.Attr == []) && (a0.Value == [])) && ((Sl.len a0.Subs) == 0))))]) σ' ∧ Hp [] [] S' [(i1, .cells [(.int .i64 a0.Kind), (.str a0.Attr), (.str a0.Value), (encSl eS a0.Subs), (encSl e_Api_Filter a0.Kids)])] [] [] ∧ e' = false) ?_ ?_
     ·revert H
      cases hc2289 : ((a0.Attr == []) && (a0.Value == []))
      ·intro H
       refine WO.by rfl rfl rfl ?_
       refine WO.by rfl rfl rfl ?_
       refine WO.by rfl rfl rfl ?_
       refine WO.by rfl rfl rfl ?_
       refine WS (v := .bool false) rfl (nz rfl rfl) ?_
       refine WO.nil ?_
       exact ⟨(kc rfl (kc rfl known_nil)), H, rfl⟩
      ·intro H
       refine WO.go0 rfl rfl ?_
       refine WS (v := .ptr i1 3) rfl (nz rfl rfl) ?_
       refine WO.go0 rfl rfl ?_
       refine WS (v := (encSl eS a0.Subs)) rfl (nz rfl (stp_load rfl (H.get 0 rfl) rfl)) ?_
       refine WO.go0 rfl rfl ?_
       refine WS (v := (.int .i64 (Sl.len a0.Subs))) rfl (nz rfl (stp_len rfl (isSl_enc _ _) rfl)) ?_
       refine WO.go0 rfl rfl ?_
       refine WS (v := (.bool ((Sl.len a0.Subs) == 0))) rfl (nz rfl rfl) ?_
       refine WS (v := (.bool ((Sl.len a0.Subs) == 0))) rfl (nz rfl rfl) ?_
       refine WO.nil ?_
       exact ⟨(kc rfl (kc rfl known_nil)), H, rfl⟩
     ·rintro σ S e ⟨hk, H, rfl⟩
      refine WO.of_known hk ?_
      refine WS (v := (.bool (((a0.Attr == []) && (a0.Value == [])) && ((Sl.len a0.Subs) == 0)))) rfl (nz rfl rfl) ?_
      obtain ⟨y2294, hy2294, hOy2294⟩ := bindS h
      refine WO.split 5 (fun σ' S' e' => Known ([(41, (.bool y2294))]) σ' ∧ Hp [] [] S' [(i1, .cells [(.int .i64 a0.Kind), (.str a0.Attr), (.str a0.Value), (encSl eS a0.Subs), (encSl e_Api_Filter a0.Kids)])] [] [] ∧ e' = false) ?_ ?_
      ·replace h := hy2294
       revert H
       cases hc2296 : (((a0.Attr == []) && (a0.Value == [])) && ((Sl.len a0.Subs) == 0))
       ·intro H
        replace h := iteF h hc2296
        refine WO.by rfl rfl rfl ?_
        refine WO.by rfl rfl rfl ?_
        refine WO.by rfl rfl rfl ?_
        refine WO.by rfl rfl rfl ?_
        refine WS (v := .bool false) rfl (nz rfl rfl) ?_
        refine WO.nil ?_
        obtain rfl := Option.some.inj h
        exact ⟨(kc rfl known_nil), (H.sub (.cons_cons _ .slnil) .slnil .slnil), rfl⟩
       ·intro H
        replace h := iteT h hc2296
        refine WO.go0 rfl rfl ?_
        refine WS (v := .ptr i1 4) rfl (nz rfl rfl) ?_
        refine WO.go0 rfl rfl ?_
        refine WS (v := (encSl e_Api_Filter a0.Kids)) rfl (nz rfl (stp_load rfl (H.get 0 rfl) rfl)) ?_
        refine WO.go0 rfl rfl ?_
        obtain ⟨y2295, hy2295, h⟩ := bindS h
        refine WS (v := .bool y2295) rfl (nz (fz_tmp' (isSl_enc _ _).frz (fz_oth' (fun _ h => by cases h) rfl)) (stp_call (vs := [(encSl e_Api_Filter a0.Kids), (.fn (.func 32) [] [])]) rfl rfl (s31_32 ih _ hy2295 (by simp only [strip_enc, st_fn, List.map_cons, List.map_nil, tupled]) _))) ?_
        refine WO.go0 rfl rfl ?_
        refine WS (v := (.bool (!y2295))) rfl (nz rfl rfl) ?_
        refine WS (v := (.bool (!y2295))) rfl (nz rfl rfl) ?_
        refine WO.nil ?_
        obtain rfl := Option.some.inj h
        exact ⟨(kc rfl known_nil), (H.sub (.cons_cons _ .slnil) .slnil .slnil), rfl⟩
      ·rintro σ S e ⟨hk, H, rfl⟩
       replace h := hOy2294
       refine WO.of_known hk ?_
       refine WS (v := .bool y2294) rfl (nz rfl rfl) ?_
       refine WO.nil ?_
       refine WC.ret ?_
       refine KX.seq_r ?_
       refine KX.block_r ?_
       refine KX.seq_r ?_
       refine KX.block_r ?_
       refine KX.seq_r ?_
       refine KX.block_r ?_
       refine KX.seq_r ?_
       refine KX.block_r ?_
       refine KX.seq_r ?_
       obtain rfl := Option.some.inj h
       refine KB.ret (vs := [(.bool y2294)]) (res_tmp rfl res_nil) (fl_cons' rfl rfl) ?_
       exact rfl
  ·refine WC.condF rfl hc2353 ?_
   refine WC.skip ?_
   refine KX.seq_n ?_
   refine WC.seq ?_
   refine WC.seq ?_
   refine WC.seqR ?_
   refine WS (v := (.bool (a0.Kind == 1))) rfl (nz rfl rfl) ?_
   refine WS (v := (.bool (a0.Kind == 1))) rfl (nz rfl rfl) ?_
   refine WO.nil ?_
   obtain ⟨y2300, hy2300, hOy2300⟩ := bindS h
   refine WC.join (fun σ' S' e' => Known ([(1, (.ptr i1 0)), (4, (.int .i64 a0.Kind)), (7, (.bool y2300))]) σ' ∧ Hp [] [] S' [(i1, .cells [(.int .i64 a0.Kind), (.str a0.Attr), (.str a0.Value), (encSl eS a0.Subs), (encSl e_Api_Filter a0.Kids)])] [] [] ∧ e' = false) ?_ ?_
   ·replace h := hy2300
    rcases iteS h with ⟨hc2301, h⟩ | ⟨hc2301, h⟩
    ·refine WC.condT rfl hc2301 ?_
     refine WC.skip ?_
     refine KX.seq_n ?_
     obtain rfl := Option.some.inj h
     exact ⟨(kc rfl (kc rfl (kc rfl known_nil))), (H.sub (.cons_cons _ .slnil) .slnil .slnil), rfl⟩
    ·refine WC.condF rfl hc2301 ?_
     refine WC.region ?_
     refine WS (v := (.bool (a0.Kind == 2))) rfl (nz rfl rfl) ?_
     refine WS (v := (.bool (a0.Kind == 2))) rfl (nz rfl rfl) ?_
     refine WO.nil ?_
     refine KX.seq_n ?_
     obtain rfl := Option.some.inj h
     exact ⟨(kc rfl (kc rfl (kc rfl known_nil))), (H.sub (.cons_cons _ .slnil) .slnil .slnil), rfl⟩
   ·rintro σ S e ⟨hk, H, rfl⟩
    replace h := hOy2300
    refine KX.of_known hk ?_
    refine KX.seq_n ?_
    rcases iteS h with ⟨hc2352, h⟩ | ⟨hc2352, h⟩
    ·refine WC.condT rfl hc2352 ?_
     refine WC.exit ?_
     refine KX.seq_x ?_
     refine KX.seq_x ?_
     refine KX.block_y rfl ?_
     refine KX.seq_x ?_
     refine KX.block_x ?_
     refine KX.seq_n ?_
     refine WC.seq ?_
     refine WC.seqR ?_
     refine WS (v := .ptr i1 1) rfl (nz rfl rfl) ?_
     refine WS (v := .str a0.Attr) rfl (nz rfl (stp_load rfl (H.get 0 rfl) rfl)) ?_
     refine WS (v := (.bool (a0.Attr == []))) rfl (nz rfl rfl) ?_
     refine WS (v := (.bool (a0.Attr == []))) rfl (nz rfl rfl) ?_
     refine WO.split 4 (fun σ' S' e' => Known ([(1, (.ptr i1 0)), (29, (.bool ((a0.Attr == []) && (a0.Value == []))))]) σ' ∧ Hp [] [] S' [(i1, .cells [(.int .i64 a0.Kind), (.str a0.Attr), (.str a0.Value), (encSl eS a0.Subs), (encSl e_Api_Filter a0.Kids)])] [] [] ∧ e' = false) ?_ ?_
     ·revert H
      cases hc2303 : (a0.Attr == [])
      ·intro H
       refine WO.by rfl rfl rfl ?_
       refine WO.by rfl rfl rfl ?_
       refine WO.by rfl rfl rfl ?_
       refine WS (v := .bool false) rfl (nz rfl rfl) ?_
       refine WO.nil ?_
       exact ⟨(kc rfl (kc rfl known_nil)), H, rfl⟩
      ·intro H
       refine WO.go0 rfl rfl ?_
       refine WS (v := .ptr i1 2) rfl (nz rfl rfl) ?_
       refine WO.go0 rfl rfl ?_
       refine WS (v := .str a0.Value) rfl (nz rfl (stp_load rfl (H.get 0 rfl) rfl)) ?_
       refine WO.go0 rfl rfl ?_
       refine WS (v := (.bool (a0.Value == []))) rfl (nz rfl rfl) ?_
       refine WS (v := (.bool (a0.Value == []))) rfl (nz rfl rfl) ?_
       refine WO.nil ?_
       exact ⟨(kc rfl (kc rfl known_nil)), H, rfl⟩
     ·rintro σ S e ⟨hk, H, rfl⟩
      refine WO.of_known hk ?_
      refine WS (v := (.bool ((a0.Attr == []) && (a0.Value == [])))) rfl (nz rfl rfl) ?_
      refine WO.split 5 (fun σ' S' e' => Known ([(1, (.ptr i1 0)), (35, (.bool (((a0.Attr == []) && (a0.Value == [])) && ((Sl.len a0.Subs) == 0))))]) σ' ∧ Hp [] [] S' [(i1, .cells [(.int .i64 a0.Kind), (.str a0.Attr), (.str a0.Value), (encSl eS a0.Subs), (encSl e_Api_Filter a0.Kids)])] [] [] ∧ e' = false) ?_ ?_
      ·revert H
       cases hc2304 : ((a0.Attr == []) && (a0.Value == []))
       ·intro H
        refine WO.by rfl rfl rfl ?_
        refine WO.by rfl rfl rfl ?_
        refine WO.by rfl rfl rfl ?_
        refine WO.by rfl rfl rfl ?_
        refine WS (v := .bool false) rfl (nz rfl rfl) ?_
        refine WO.nil ?_
        exact ⟨(kc rfl (kc rfl known_nil)), H, rfl⟩
       ·intro H
        refine WO.go0 rfl rfl ?_
        refine WS (v := .ptr i1 3) rfl (nz rfl rfl) ?_
        refine WO.go0 rfl rfl ?_
        refine WS (v := (encSl eS a0.Subs)) rfl (nz rfl (stp_load rfl (H.get 0 rfl) rfl)) ?_
        refine WO.go0 rfl rfl ?_
        refine WS (v := (.int .i64 (Sl.len a0.Subs))) rfl (nz rfl (stp_len rfl (isSl_enc _ _) rfl)) ?_
        refine WO.go0 rfl rfl ?_
        refine WS (v := (.bool ((Sl.len a0.Subs) == 0))) rfl (nz rfl rfl) ?_
        refine WS (v := (.bool ((Sl.len a0.Subs) == 0))) rfl (nz rfl rfl) ?_
        refine WO.nil ?_
        exact ⟨(kc rfl (kc rfl known_nil)), H, rfl⟩
      ·rintro σ S e ⟨hk, H, rfl⟩
       refine WO.of_known hk ?_
       refine WS (v := (.bool (((a0.Attr == []) && (a0.Value == [])) && ((Sl.len a0.Subs) == 0)))) rfl (nz rfl rfl) ?_
       obtain ⟨y2309, hy2309, hOy2309⟩ := bindS h
       refine WO.split 5 (fun σ' S' e' => Known ([(41, (.bool y2309))]) σ' ∧ Hp [] [] S' [(i1, .cells [(.int .i64 a0.Kind), (.str a0.Attr), (.str a0.Value), (encSl eS a0.Subs), (encSl e_Api_Filter a0.Kids)])] [] [] ∧ e' = false) ?_ ?_
       ·replace h := hy2309
        revert H
        cases hc2311 : (((a0.Attr == []) && (a0.Value == [])) && ((Sl.len a0.Subs) == 0))
        ·intro H
         replace h := iteF h hc2311
         refine WO.by rfl rfl rfl ?_
         refine WO.by rfl rfl rfl ?_
         refine WO.by rfl rfl rfl ?_
         refine WO.by rfl rfl rfl ?_
         refine WS (v := .bool false) rfl (nz rfl rfl) ?_
         refine WO.nil ?_
         obtain rfl := Option.some.inj h
         exact ⟨(kc rfl known_nil), (H.sub (.cons_cons _ .slnil) .slnil .slnil), rfl⟩
        ·intro H
         replace h := iteT h hc2311
         refine WO.go0 rfl rfl ?_
         refine WS (v := .ptr i1 4) rfl (nz rfl rfl) ?_
         refine WO.go0 rfl rfl ?_
         refine WS (v := (encSl e_Api_Filter a0.Kids)) rfl (nz rfl (stp_load rfl (H.get 0 rfl) rfl)) ?_
         refine WO.go0 rfl rfl ?_
         obtain ⟨y2310, hy2310, h⟩ := bindS h
         refine WS (v := .bool y2310) rfl (nz (fz_tmp' (isSl_enc _ _).frz (fz_oth' (fun _ h => by cases h) rfl)) (stp_call (vs := [(encSl e_Api_Filter a0.Kids), (.fn (.func 32) [] [])]) rfl rfl (s31_32 ih _ hy2310 (by simp only [strip_enc, st_fn, List.map_cons, List.map_nil, tupled]) _))) ?_
         refine WO.go0 rfl rfl ?_
         refine WS (v := (.bool (!y2310))) rfl (nz rfl rfl) ?_
         refine WS (v := (.bool (!y2310))) rfl (nz rfl rfl) ?_
         refine WO.nil ?_
         obtain rfl := Option.some.inj h
         exact ⟨(kc rfl known_nil), (H.sub (.cons_cons _ .slnil) .slnil .slnil), rfl⟩
       ·rintro σ S e ⟨hk, H, rfl⟩
        replace h := hOy2309
        refine WO.of_known hk ?_
        refine WS (v := .bool y2309) rfl (nz rfl rfl) ?_
        refine WO.nil ?_
        refine WC.ret ?_
        refine KX.seq_r ?_
        refine KX.block_r ?_
        refine KX.seq_r ?_
        refine KX.block_r ?_
        refine KX.seq_r ?_
        refine KX.block_r ?_
        refine KX.seq_r ?_
        refine KX.block_r ?_
        refine KX.seq_r ?_
        obtain rfl := Option.some.inj h
        refine KB.ret (vs := [(.bool y2309)]) (res_tmp rfl res_nil) (fl_cons' rfl rfl) ?_
        exact rfl
    ·refine WC.condF rfl hc2352 ?_
     refine WC.skip ?_
     refine KX.seq_n ?_
     refine WC.seq ?_
     refine WC.seqR ?_
     refine WS (v := (.bool (a0.Kind == 7))) rfl (nz rfl rfl) ?_
     refine WS (v := (.bool (a0.Kind == 7))) rfl (nz rfl rfl) ?_
     refine WO.nil ?_
     rcases iteS h with ⟨hc2351, h⟩ | ⟨hc2351, h⟩
     ·refine WC.condT rfl hc2351 ?_
      refine WC.exit ?_
      refine KX.seq_x ?_
      refine KX.seq_x ?_
      refine KX.block_y rfl ?_
      refine KX.seq_x ?_
      refine KX.block_y rfl ?_
      refine KX.seq_x ?_
      refine KX.block_x ?_
      refine KX.seq_n ?_
      refine WC.seq ?_
      refine WC.seqR ?_
      refine WS (v := .ptr i1 1) rfl (nz rfl rfl) ?_
      refine WS (v := .str a0.Attr) rfl (nz rfl (stp_load rfl (H.get 0 rfl) rfl)) ?_
      obtain ⟨y2313, hy2313, h⟩ := bindS h
      refine WS (v := .bool y2313) rfl (nz rfl (stp_call (vs := [(.str a0.Attr)]) rfl rfl (s33 _ hy2313 rfl _))) ?_
      refine WS (v := .bool y2313) rfl (nz rfl rfl) ?_
      refine WO.split 4 (fun σ' S' e' => Known ([(1, (.ptr i1 0)), (49, (.bool (y2313 && (a0.Value == []))))]) σ' ∧ Hp [] [] S' [(i1, .cells [(.int .i64 a0.Kind), (.str a0.Attr), (.str a0.Value), (encSl eS a0.Subs), (encSl e_Api_Filter a0.Kids)])] [] [] ∧ e' = false) ?_ ?_
      ·revert H
       cases hc2314 : y2313
       ·intro H
        refine WO.by rfl rfl rfl ?_
        refine WO.by rfl rfl rfl ?_
        refine WO.by rfl rfl rfl ?_
        refine WS (v := .bool false) rfl (nz rfl rfl) ?_
        refine WO.nil ?_
        exact ⟨(kc rfl (kc rfl known_nil)), H, rfl⟩
       ·intro H
        refine WO.go0 rfl rfl ?_
        refine WS (v := .ptr i1 2) rfl (nz rfl rfl) ?_
        refine WO.go0 rfl rfl ?_
        refine WS (v := .str a0.Value) rfl (nz rfl (stp_load rfl (H.get 0 rfl) rfl)) ?_
        refine WO.go0 rfl rfl ?_
        refine WS (v := (.bool (a0.Value == []))) rfl (nz rfl rfl) ?_
        refine WS (v := (.bool (a0.Value == []))) rfl (nz rfl rfl) ?_
        refine WO.nil ?_
        exact ⟨(kc rfl (kc rfl known_nil)), H, rfl⟩
      ·rintro σ S e ⟨hk, H, rfl⟩
       refine WO.of_known hk ?_
       refine WS (v := (.bool (y2313 && (a0.Value == [])))) rfl (nz rfl rfl) ?_
       refine WO.split 5 (fun σ' S' e' => Known ([(1, (.ptr i1 0)), (55, (.bool ((y2313 && (a0.Value == [])) && ((Sl.len a0.Subs) == 0))))]) σ' ∧ Hp [] [] S' [(i1, .cells [(.int .i64 a0.Kind), (.str a0.Attr), (.str a0.Value), (encSl eS a0.Subs), (encSl e_Api_Filter a0.Kids)])] [] [] ∧ e' = false) ?_ ?_
       ·revert H
        cases hc2315 : (y2313 && (a0.Value == []))
        ·intro H
         refine WO.by rfl rfl rfl ?_
         refine WO.by rfl rfl rfl ?_
         refine WO.by rfl rfl rfl ?_
         refine WO.by rfl rfl rfl ?_
         refine WS (v := .bool false) rfl (nz rfl rfl) ?_
         refine WO.nil ?_
         exact ⟨(kc rfl (kc rfl known_nil)), H, rfl⟩
        ·intro H
         refine WO.go0 rfl rfl ?_
         refine WS (v := .ptr i1 3) rfl (nz rfl rfl) ?_
         refine WO.go0 rfl rfl ?_
         refine WS (v := (encSl eS a0.Subs)) rfl (nz rfl (stp_load rfl (H.get 0 rfl) rfl)) ?_
         refine WO.go0 rfl rfl ?_
         refine WS (v := (.int .i64 (Sl.len a0.Subs))) rfl (nz rfl (stp_len rfl (isSl_enc _ _) rfl)) ?_
         refine WO.go0 rfl rfl ?_
         refine WS (v := (.bool ((Sl.len a0.Subs) == 0))) rfl (nz rfl rfl) ?_
         refine WS (v := (.bool ((Sl.len a0.Subs) == 0))) rfl (nz rfl rfl) ?_
         refine WO.nil ?_
         exact ⟨(kc rfl (kc rfl known_nil)), H, rfl⟩
       ·rintro σ S e ⟨hk, H, rfl⟩
        refine WO.of_known hk ?_
        refine WS (v := (.bool ((y2313 && (a0.Value == [])) && ((Sl.len a0.Subs) == 0)))) rfl (nz rfl rfl) ?_
        refine WO.split 5 (fun σ' S' e' => Known ([(61, (.bool (((y2313 && (a0.Value == [])) && ((Sl.len a0.Subs) == 0)) && ((Sl.len a0.Kids) == 0))))]) σ' ∧ Hp [] [] S' [(i1, .cells [(.int .i64 a0.Kind), (.str a0.Attr), (.str a0.Value), (encSl eS a0.Subs), (encSl e_Api_Filter a0.Kids)])] [] [] ∧ e' = false) ?_ ?_
        ·revert H
         cases hc2316 : ((y2313 && (a0.Value == [])) && ((Sl.len a0.Subs) == 0))
         ·intro H
          refine WO.by rfl rfl rfl ?_
          refine WO.by rfl rfl rfl ?_
          refine WO.by rfl rfl rfl ?_
          refine WO.by rfl rfl rfl ?_
          refine WS (v := .bool false) rfl (nz rfl rfl) ?_
          refine WO.nil ?_
          exact ⟨(kc rfl known_nil), H, rfl⟩
         ·intro H
          refine WO.go0 rfl rfl ?_
          refine WS (v := .ptr i1 4) rfl (nz rfl rfl) ?_
          refine WO.go0 rfl rfl ?_
          refine WS (v := (encSl e_Api_Filter a0.Kids)) rfl (nz rfl (stp_load rfl (H.get 0 rfl) rfl)) ?_
          refine WO.go0 rfl rfl ?_
          refine WS (v := (.int .i64 (Sl.len a0.Kids))) rfl (nz rfl (stp_len rfl (isSl_enc _ _) rfl)) ?_
          refine WO.go0 rfl rfl ?_
          refine WS (v := (.bool ((Sl.len a0.Kids) == 0))) rfl (nz rfl rfl) ?_
          refine WS (v := (.bool ((Sl.len a0.Kids) == 0))) rfl (nz rfl rfl) ?_
          refine WO.nil ?_
          exact ⟨(kc rfl known_nil), H, rfl⟩
        ·rintro σ S e ⟨hk, H, rfl⟩
         refine WO.of_known hk ?_
         refine WS (v := (.bool (((y2313 && (a0.Value == [])) && ((Sl.len a0.Subs) == 0)) && ((Sl.len a0.Kids) == 0)))) rfl (nz rfl rfl) ?_
         refine WO.nil ?_
         refine WC.ret ?_
         refine KX.seq_r ?_
         refine KX.block_r ?_
         refine KX.seq_r ?_
         refine KX.block_r ?_
         refine KX.seq_r ?_
         refine KX.block_r ?_
         refine KX.seq_r ?_
         obtain rfl := Option.some.inj h
         refine KB.ret (vs := [(.bool (((y2313 && (a0.Value == [])) && ((Sl.len a0.Subs) == 0)) && ((Sl.len a0.Kids) == 0)))]) (res_tmp rfl res_nil) (fl_cons' rfl rfl) ?_
         exact rfl
     ·refine WC.condF rfl hc2351 ?_
      refine WC.skip ?_
      refine KX.seq_n ?_
      refine WC.seq ?_
      refine WC.seqR ?_
      refine WS (v := (.bool (a0.Kind == 8))) rfl (nz rfl rfl) ?_
      refine WS (v := (.bool (a0.Kind == 8))) rfl (nz rfl rfl) ?_
      refine WO.nil ?_
      rcases iteS h with ⟨hc2350, h⟩ | ⟨hc2350, h⟩
      ·refine WC.condT rfl hc2350 ?_
       refine WC.exit ?_
       refine KX.seq_x ?_
       refine KX.seq_x ?_
       refine KX.block_y rfl ?_
       refine KX.seq_x ?_
       refine KX.block_y rfl ?_
       refine KX.seq_x ?_
       refine KX.block_y rfl ?_
       refine KX.seq_x ?_
       refine KX.block_x ?_
       refine KX.seq_n ?_
       refine WC.seq ?_
       refine WC.seqR ?_
       refine WS (v := .ptr i1 1) rfl (nz rfl rfl) ?_
       refine WS (v := .str a0.Attr) rfl (nz rfl (stp_load rfl (H.get 0 rfl) rfl)) ?_
       obtain ⟨y2318, hy2318, h⟩ := bindS h
       refine WS (v := .bool y2318) rfl (nz rfl (stp_call (vs := [(.str a0.Attr)]) rfl rfl (s33 _ hy2318 rfl _))) ?_
       refine WS (v := .bool y2318) rfl (nz rfl rfl) ?_
       refine WO.split 4 (fun σ' S' e' => Known ([(1, (.ptr i1 0)), (69, (.bool (y2318 && (a0.Value == []))))]) σ' ∧ Hp [] [] S' [(i1, .cells [(.int .i64 a0.Kind), (.str a0.Attr), (.str a0.Value), (encSl eS a0.Subs), (encSl e_Api_Filter a0.Kids)])] [] [] ∧ e' = false) ?_ ?_
       ·revert H
        cases hc2319 : y2318
        ·intro H
         refine WO.by rfl rfl rfl ?_
         refine WO.by rfl rfl rfl ?_
         refine WO.by rfl rfl rfl ?_
         refine WS (v := .bool false) rfl (nz rfl rfl) ?_
         refine WO.nil ?_
         exact ⟨(kc rfl (kc rfl known_nil)), H, rfl⟩
        ·intro H
         refine WO.go0 rfl rfl ?_
         refine WS (v := .ptr i1 2) rfl (nz rfl rfl) ?_
         refine WO.go0 rfl rfl ?_
         refine WS (v := .str a0.Value) rfl (nz rfl (stp_load rfl (H.get 0 rfl) rfl)) ?_
         refine WO.go0 rfl rfl ?_
         refine WS (v := (.bool (a0.Value == []))) rfl (nz rfl rfl) ?_
         refine WS (v := (.bool (a0.Value == []))) rfl (nz rfl rfl) ?_
         refine WO.nil ?_
         exact ⟨(kc rfl (kc rfl known_nil)), H, rfl⟩
       ·rintro σ S e ⟨hk, H, rfl⟩
        refine WO.of_known hk ?_
        refine WS (v := (.bool (y2318 && (a0.Value == [])))) rfl (nz rfl rfl) ?_
        refine WO.split 5 (fun σ' S' e' => Known ([(1, (.ptr i1 0)), (75, (.bool ((y2318 && (a0.Value == [])) && ((Sl.len a0.Kids) == 0))))]) σ' ∧ Hp [] [] S' [(i1, .cells [(.int .i64 a0.Kind), (.str a0.Attr), (.str a0.Value), (encSl eS a0.Subs), (encSl e_Api_Filter a0.Kids)])] [] [] ∧ e' = false) ?_ ?_
        ·revert H
         cases hc2320 : (y2318 && (a0.Value == []))
         ·intro H
          refine WO.by rfl rfl rfl ?_
          refine WO.by rfl rfl rfl ?_
          refine WO.by rfl rfl rfl ?_
          refine WO.by rfl rfl rfl ?_
          refine WS (v := .bool false) rfl (nz rfl rfl) ?_
          refine WO.nil ?_
          exact ⟨(kc rfl (kc rfl known_nil)), H, rfl⟩
         ·intro H
          refine WO.go0 rfl rfl ?_
          refine WS (v := .ptr i1 4) rfl (nz rfl rfl) ?_
          refine WO.go0 rfl rfl ?_
          refine WS (v := (encSl e_Api_Filter a0.Kids)) rfl (nz rfl (stp_load rfl (H.get 0 rfl) rfl)) ?_
          refine WO.go0 rfl rfl ?_
          refine WS (v := (.int .i64 (Sl.len a0.Kids))) rfl (nz rfl (stp_len rfl (isSl_enc _ _) rfl)) ?_
          refine WO.go0 rfl rfl ?_
          refine WS (v := (.bool ((Sl.len a0.Kids) == 0))) rfl (nz rfl rfl) ?_
          refine WS (v := (.bool ((Sl.len a0.Kids) == 0))) rfl (nz rfl rfl) ?_
          refine WO.nil ?_
          exact ⟨(kc rfl (kc rfl known_nil)), H, rfl⟩
        ·rintro σ S e ⟨hk, H, rfl⟩
         refine WO.of_known hk ?_
         refine WS (v := (.bool ((y2318 && (a0.Value == [])) && ((Sl.len a0.Kids) == 0)))) rfl (nz rfl rfl) ?_
         obtain ⟨y2325, hy2325, hOy2325⟩ := bindS h
         refine WO.split 4 (fun σ' S' e' => Known ([(80, (.bool y2325))]) σ' ∧ Hp [] [] S' [(i1, .cells [(.int .i64 a0.Kind), (.str a0.Attr), (.str a0.Value), (encSl eS a0.Subs), (encSl e_Api_Filter a0.Kids)])] [] [] ∧ e' = false) ?_ ?_
         ·replace h := hy2325
          revert H
          cases hc2327 : ((y2318 && (a0.Value == [])) && ((Sl.len a0.Kids) == 0))
          ·intro H
           replace h := iteF h hc2327
           refine WO.by rfl rfl rfl ?_
           refine WO.by rfl rfl rfl ?_
           refine WO.by rfl rfl rfl ?_
           refine WS (v := .bool false) rfl (nz rfl rfl) ?_
           refine WO.nil ?_
           obtain rfl := Option.some.inj h
           exact ⟨(kc rfl known_nil), (H.sub (.cons_cons _ .slnil) .slnil .slnil), rfl⟩
          ·intro H
           replace h := iteT h hc2327
           refine WO.go0 rfl rfl ?_
           refine WS (v := .ptr i1 3) rfl (nz rfl rfl) ?_
           refine WO.go0 rfl rfl ?_
           refine WS (v := (encSl eS a0.Subs)) rfl (nz rfl (stp_load rfl (H.get 0 rfl) rfl)) ?_
           refine WO.go0 rfl rfl ?_
           obtain ⟨y2326, hy2326, h⟩ := bindS h
           refine WS (v := .bool y2326) rfl (nz (fz_tmp' (isSl_enc _ _).frz rfl) (stp_call (vs := [(encSl eS a0.Subs)]) rfl rfl (s34 _ hy2326 (by simp only [strip_enc, List.map_cons, List.map_nil, tupled]) _))) ?_
           refine WS (v := .bool y2326) rfl (nz rfl rfl) ?_
           refine WO.nil ?_
           obtain rfl := Option.some.inj h
           exact ⟨(kc rfl known_nil), (H.sub (.cons_cons _ .slnil) .slnil .slnil), rfl⟩
         ·rintro σ S e ⟨hk, H, rfl⟩
          replace h := hOy2325
          refine WO.of_known hk ?_
          refine WS (v := .bool y2325) rfl (nz rfl rfl) ?_
          refine WO.nil ?_
          refine WC.ret ?_
          refine KX.seq_r ?_
          refine KX.block_r ?_
          refine KX.seq_r ?_
          refine KX.block_r ?_
          refine KX.seq_r ?_
          obtain rfl := Option.some.inj h
          refine KB.ret (vs := [(.bool y2325)]) (res_tmp rfl res_nil) (fl_cons' rfl rfl) ?_
          exact rfl
      ·refine WC.condF rfl hc2350 ?_
       refine WC.skip ?_
       refine KX.seq_n ?_
       refine WC.seq ?_
       refine WC.seqR ?_
       refine WS (v := (.bool (a0.Kind == 4))) rfl (nz rfl rfl) ?_
       refine WS (v := (.bool (a0.Kind == 4))) rfl (nz rfl rfl) ?_
       refine WO.nil ?_
       obtain ⟨y2338, hy2338, hOy2338⟩ := bindS h
       refine WC.join (fun σ' S' e' => Known ([(1, (.ptr i1 0)), (14, (.bool y2338))]) σ' ∧ Hp [] [] S' [(i1, .cells [(.int .i64 a0.Kind), (.str a0.Attr), (.str a0.Value), (encSl eS a0.Subs), (encSl e_Api_Filter a0.Kids)])] [] [] ∧ e' = false) ?_ ?_
       ·replace h := hy2338
        rcases iteS h with ⟨hc2343, h⟩ | ⟨hc2343, h⟩
        ·refine WC.condT rfl hc2343 ?_
         refine WC.skip ?_
         refine KX.seq_n ?_
         obtain rfl := Option.some.inj h
         exact ⟨(kc rfl (kc rfl known_nil)), (H.sub (.cons_cons _ .slnil) .slnil .slnil), rfl⟩
        ·refine WC.condF rfl hc2343 ?_
         refine WC.seqR ?_
         refine WS (v := (.bool (a0.Kind == 5))) rfl (nz rfl rfl) ?_
         refine WS (v := (.bool (a0.Kind == 5))) rfl (nz rfl rfl) ?_
         refine WO.nil ?_
         obtain ⟨y2341, hy2341, hOy2341⟩ := bindS h
         refine WC.join (fun σ' S' e' => Known ([(1, (.ptr i1 0)), (14, (.bool y2341))]) σ' ∧ Hp [] [] S' [(i1, .cells [(.int .i64 a0.Kind), (.str a0.Attr), (.str a0.Value), (encSl eS a0.Subs), (encSl e_Api_Filter a0.Kids)])] [] [] ∧ e' = false) ?_ ?_
         ·replace h := hy2341
          rcases iteS h with ⟨hc2342, h⟩ | ⟨hc2342, h⟩
          ·refine WC.condT rfl hc2342 ?_
           refine WC.skip ?_
           refine KX.seq_n ?_
           obtain rfl := Option.some.inj h
           exact ⟨(kc rfl (kc rfl known_nil)), (H.sub (.cons_cons _ .slnil) .slnil .slnil), rfl⟩
          ·refine WC.condF rfl hc2342 ?_
           refine WC.region ?_
           refine WS (v := (.bool (a0.Kind == 6))) rfl (nz rfl rfl) ?_
           refine WS (v := (.bool (a0.Kind == 6))) rfl (nz rfl rfl) ?_
           refine WO.nil ?_
           refine KX.seq_n ?_
           obtain rfl := Option.some.inj h
           exact ⟨(kc rfl (kc rfl known_nil)), (H.sub (.cons_cons _ .slnil) .slnil .slnil), rfl⟩
         ·rintro σ S e ⟨hk, H, rfl⟩
          replace h := hOy2341
          refine KX.of_known hk ?_
          refine KX.seq_n ?_
          obtain rfl := Option.some.inj h
          exact ⟨(kc rfl (kc rfl known_nil)), (H.sub (.cons_cons _ .slnil) .slnil .slnil), rfl⟩
       ·rintro σ S e ⟨hk, H, rfl⟩
        replace h := hOy2338
        refine KX.of_known hk ?_
        refine KX.seq_n ?_
        rcases iteS h with ⟨hc2349, h⟩ | ⟨hc2349, h⟩
        ·refine WC.condT rfl hc2349 ?_
         refine WC.exit ?_
         refine KX.seq_x ?_
         refine KX.block_y rfl ?_
         refine KX.seq_x ?_
         refine KX.block_y rfl ?_
         refine KX.seq_x ?_
         refine KX.block_y rfl ?_
         refine KX.seq_x ?_
         refine KX.block_y rfl ?_
         refine KX.seq_x ?_
         refine KX.block_x ?_
         refine KX.seq_n ?_
         refine WC.seq ?_
         refine WC.seqR ?_
         refine WS (v := .ptr i1 1) rfl (nz rfl rfl) ?_
         refine WS (v := .str a0.Attr) rfl (nz rfl (stp_load rfl (H.get 0 rfl) rfl)) ?_
         obtain ⟨y2345, hy2345, h⟩ := bindS h
         refine WS (v := .bool y2345) rfl (nz rfl (stp_call (vs := [(.str a0.Attr)]) rfl rfl (s33 _ hy2345 rfl _))) ?_
         refine WS (v := .bool y2345) rfl (nz rfl rfl) ?_
         refine WO.split 5 (fun σ' S' e' => Known ([(1, (.ptr i1 0)), (89, (.bool (y2345 && (decide ((Str.len a0.Value) ≤ 60)))))]) σ' ∧ Hp [] [] S' [(i1, .cells [(.int .i64 a0.Kind), (.str a0.Attr), (.str a0.Value), (encSl eS a0.Subs), (encSl e_Api_Filter a0.Kids)])] [] [] ∧ e' = false) ?_ ?_
         ·revert H
          cases hc2346 : y2345
          ·intro H
           refine WO.by rfl rfl rfl ?_
           refine WO.by rfl rfl rfl ?_
           refine WO.by rfl rfl rfl ?_
           refine WO.by rfl rfl rfl ?_
           refine WS (v := .bool false) rfl (nz rfl rfl) ?_
           refine WO.nil ?_
           exact ⟨(kc rfl (kc rfl known_nil)), H, rfl⟩
          ·intro H
           refine WO.go0 rfl rfl ?_
           refine WS (v := .ptr i1 2) rfl (nz rfl rfl) ?_
           refine WO.go0 rfl rfl ?_
           refine WS (v := .str a0.Value) rfl (nz rfl (stp_load rfl (H.get 0 rfl) rfl)) ?_
           refine WO.go0 rfl rfl ?_
           refine WS (v := (.int .i64 (Str.len a0.Value))) rfl (nz rfl rfl) ?_
           refine WO.go0 rfl rfl ?_
           refine WS (v := (.bool (decide ((Str.len a0.Value) ≤ 60)))) rfl (nz rfl rfl) ?_
           refine WS (v := (.bool (decide ((Str.len a0.Value) ≤ 60)))) rfl (nz rfl rfl) ?_
           refine WO.nil ?_
           exact ⟨(kc rfl (kc rfl known_nil)), H, rfl⟩
         ·rintro σ S e ⟨hk, H, rfl⟩
          refine WO.of_known hk ?_
          refine WS (v := (.bool (y2345 && (decide ((Str.len a0.Value) ≤ 60))))) rfl (nz rfl rfl) ?_
          refine WO.split 5 (fun σ' S' e' => Known ([(1, (.ptr i1 0)), (95, (.bool ((y2345 && (decide ((Str.len a0.Value) ≤ 60))) && ((Sl.len a0.Subs) == 0))))]) σ' ∧ Hp [] [] S' [(i1, .cells [(.int .i64 a0.Kind), (.str a0.Attr), (.str a0.Value), (encSl eS a0.Subs), (encSl e_Api_Filter a0.Kids)])] [] [] ∧ e' = false) ?_ ?_
          ·revert H
           cases hc2347 : (y2345 && (decide ((Str.len a0.Value) ≤ 60)))
           ·intro H
            refine WO.by rfl rfl rfl ?_
            refine WO.by rfl rfl rfl ?_
            refine WO.by rfl rfl rfl ?_
            refine WO.by rfl rfl rfl ?_
            refine WS (v := .bool false) rfl (nz rfl rfl) ?_
            refine WO.nil ?_
            exact ⟨(kc rfl (kc rfl known_nil)), H, rfl⟩
           ·intro H
            refine WO.go0 rfl rfl ?_
            refine WS (v := .ptr i1 3) rfl (nz rfl rfl) ?_
            refine WO.go0 rfl rfl ?_
            refine WS (v := (encSl eS a0.Subs)) rfl (nz rfl (stp_load rfl (H.get 0 rfl) rfl)) ?_
            refine WO.go0 rfl rfl ?_
            refine WS (v := (.int .i64 (Sl.len a0.Subs))) rfl (nz rfl (stp_len rfl (isSl_enc _ _) rfl)) ?_
            refine WO.go0 rfl rfl ?_
            refine WS (v := (.bool ((Sl.len a0.Subs) == 0))) rfl (nz rfl rfl) ?_
            refine WS (v := (.bool ((Sl.len a0.Subs) == 0))) rfl (nz rfl rfl) ?_
            refine WO.nil ?_
            exact ⟨(kc rfl (kc rfl known_nil)), H, rfl⟩
          ·rintro σ S e ⟨hk, H, rfl⟩
           refine WO.of_known hk ?_
           refine WS (v := (.bool ((y2345 && (decide ((Str.len a0.Value) ≤ 60))) && ((Sl.len a0.Subs) == 0)))) rfl (nz rfl rfl) ?_
           refine WO.split 5 (fun σ' S' e' => Known ([(101, (.bool (((y2345 && (decide ((Str.len a0.Value) ≤ 60))) && ((Sl.len a0.Subs) == 0)) && ((Sl.len a0.Kids) == 0))))]) σ' ∧ Hp [] [] S' [(i1, .cells [(.int .i64 a0.Kind), (.str a0.Attr), (.str a0.Value), (encSl eS a0.Subs), (encSl e_Api_Filter a0.Kids)])] [] [] ∧ e' = false) ?_ ?_
           ·revert H
            cases hc2348 : ((y2345 && (decide ((Str.len a0.Value) ≤ 60))) && ((Sl.len a0.Subs) == 0))
            ·intro H
             refine WO.by rfl rfl rfl ?_
             refine WO.by rfl rfl rfl ?_
             refine WO.by rfl rfl rfl ?_
             refine WO.by rfl rfl rfl ?_
             refine WS (v := .bool false) rfl (nz rfl rfl) ?_
             refine WO.nil ?_
             exact ⟨(kc rfl known_nil), H, rfl⟩
            ·intro H
             refine WO.go0 rfl rfl ?_
             refine WS (v := .ptr i1 4) rfl (nz rfl rfl) ?_
             refine WO.go0 rfl rfl ?_
             refine WS (v := (encSl e_Api_Filter a0.Kids)) rfl (nz rfl (stp_load rfl (H.get 0 rfl) rfl)) ?_
             refine WO.go0 rfl rfl ?_
             refine WS (v := (.int .i64 (Sl.len a0.Kids))) rfl (nz rfl (stp_len rfl (isSl_enc _ _) rfl)) ?_
             refine WO.go0 rfl rfl ?_
             refine WS (v := (.bool ((Sl.len a0.Kids) == 0))) rfl (nz rfl rfl) ?_
             refine WS (v := (.bool ((Sl.len a0.Kids) == 0))) rfl (nz rfl rfl) ?_
             refine WO.nil ?_
             exact ⟨(kc rfl known_nil), H, rfl⟩
           ·rintro σ S e ⟨hk, H, rfl⟩
            refine WO.of_known hk ?_
            refine WS (v := (.bool (((y2345 && (decide ((Str.len a0.Value) ≤ 60))) && ((Sl.len a0.Subs) == 0)) && ((Sl.len a0.Kids) == 0)))) rfl (nz rfl rfl) ?_
            refine WO.nil ?_
            refine WC.ret ?_
            refine KX.seq_r ?_
            refine KX.block_r ?_
            refine KX.seq_r ?_
            obtain rfl := Option.some.inj h
            refine KB.ret (vs := [(.bool (((y2345 && (decide ((Str.len a0.Value) ≤ 60))) && ((Sl.len a0.Subs) == 0)) && ((Sl.len a0.Kids) == 0)))]) (res_tmp rfl res_nil) (fl_cons' rfl rfl) ?_
            exact rfl
        ·refine WC.condF rfl hc2349 ?_
         refine WC.skip ?_
         refine KX.seq_n ?_
         refine WC.exit ?_
         refine KX.block_y rfl ?_
         refine KX.seq_x ?_
         refine KX.block_y rfl ?_
         refine KX.seq_x ?_
         refine KX.block_y rfl ?_
         refine KX.seq_x ?_
         refine KX.block_y rfl ?_
         refine KX.seq_x ?_
         refine KX.block_y rfl ?_
         refine KX.seq_x ?_
         refine KX.block_x ?_
         refine KX.seq_n ?_
         refine WC.seqR ?_
         refine WS (v := .bool false) rfl (nz rfl rfl) ?_
         refine WO.nil ?_
         refine WC.ret ?_
         obtain rfl := Option.some.inj h
         refine KB.ret (vs := [(.bool false)]) (res_tmp rfl res_nil) (fl_cons' rfl rfl) ?_
         exact rfl
def F12 (k : Nat) (a0 : Api_Filter) : Option Bool :=
 Option.bind (F14 k a0) fun y2 =>
 Option.bind (if decide (y2 ≤ 20) then
 Option.bind (F23 k a0) fun y8 =>
 some y8
 else
 some false) fun y7 =>
 some y7
theorem s12 : ∀ k : Nat, ∀ {a0 : Api_Filter} {r : Bool}, F12 k a0 = some r → ∀ {vs : List PV}, vs.map PV.strip = [(.agg [(.int .i64 a0.Kind), (.str a0.Attr), (.str a0.Value), (encSl eS a0.Subs), (encSl e_Api_Filter a0.Kids)])] → ∀ S : List SObj, evw env 12 vs S = some ((.bool r), S, false) := by
 intro k a0 r h vs ha S
 unfold F12 at h
 refine evw_pureW (pf := fn12) rfl rfl ha (Nat.le_of_ble_eq_true rfl) (by simp [PV.clean, cleanL, clean_encSl clean_Api_Filter, clean_encSl clean_eS]) rfl ?_
 refine WB.of (pf := fn12) rfl ?_
 have H := Hp.start []
 refine WC.seqR ?_
 refine WO.box' rfl rfl rfl rfl rfl H ?_
 intro i1 S hi1 H
 refine WS (v := .bool false) rfl (nz rfl rfl) ?_
 refine WO.nil ?_
 refine WC.seqR ?_
 refine WS (v := (.agg [(.int .i64 a0.Kind), (.str a0.Attr), (.str a0.Value), (encSl eS a0.Subs), (encSl e_Api_Filter a0.Kids)])) rfl (nz rfl (stp_load rfl (H.get 0 rfl) rfl)) ?_
 obtain ⟨y2, hy2, h⟩ := bindS h
 refine WS (v := .int .i64 y2) rfl (nz rfl (stp_call (vs := [(.agg [(.int .i64 a0.Kind), (.str a0.Attr), (.str a0.Value), (encSl eS a0.Subs), (encSl e_Api_Filter a0.Kids)])]) rfl rfl (s14 _ hy2 (by simp only [st_agg, List.map_cons, List.map_nil, st1_int, st1_str, strip1_enc, e_Api_Filter_eq, tupled]) _))) ?_
 refine WS (v := (.bool (decide (y2 ≤ 20)))) rfl (nz rfl rfl) ?_
 refine WS (v := (.bool (decide (y2 ≤ 20)))) rfl (nz rfl rfl) ?_
 obtain ⟨y7, hy7, hOy7⟩ := bindS h
 refine WO.split 3 (fun σ' S' e' => Known ([(9, (.bool y7))]) σ' ∧ Hp [] [] S' [(i1, .cells [(.int .i64 a0.Kind), (.str a0.Attr), (.str a0.Value), (encSl eS a0.Subs), (encSl e_Api_Filter a0.Kids)])] [] [] ∧ e' = false) ?_ ?_
 ·replace h := hy7
  revert H
  cases hc9 : (decide (y2 ≤ 20))
  ·intro H
   replace h := iteF h hc9
   refine WO.by rfl rfl rfl ?_
   refine WO.by rfl rfl rfl ?_
   refine WS (v := .bool false) rfl (nz rfl rfl) ?_
   refine WO.nil ?_
   obtain rfl := Option.some.inj h
   exact ⟨(kc rfl known_nil), (H.sub (.cons_cons _ .slnil) .slnil .slnil), rfl⟩
  ·intro H
   replace h := iteT h hc9
   refine WO.go0 rfl rfl ?_
   refine WS (v := (.agg [(.int .i64 a0.Kind), (.str a0.Attr), (.str a0.Value), (encSl eS a0.Subs), (encSl e_Api_Filter a0.Kids)])) rfl (nz rfl (stp_load rfl (H.get 0 rfl) rfl)) ?_
   refine WO.go0 rfl rfl ?_
   obtain ⟨y8, hy8, h⟩ := bindS h
   refine WS (v := .bool y8) rfl (nz rfl (stp_call (vs := [(.agg [(.int .i64 a0.Kind), (.str a0.Attr), (.str a0.Value), (encSl eS a0.Subs), (encSl e_Api_Filter a0.Kids)])]) rfl rfl (s23 _ hy8 (by simp only [st_agg, List.map_cons, List.map_nil, st1_int, st1_str, strip1_enc, e_Api_Filter_eq, tupled]) _))) ?_
   refine WS (v := .bool y8) rfl (nz rfl rfl) ?_
   refine WO.nil ?_
   obtain rfl := Option.some.inj h
   exact ⟨(kc rfl known_nil), (H.sub (.cons_cons _ .slnil) .slnil .slnil), rfl⟩
 ·rintro σ S e ⟨hk, H, rfl⟩
  replace h := hOy7
  refine WO.of_known hk ?_
  refine WS (v := .bool y7) rfl (nz rfl rfl) ?_
  refine WO.nil ?_
  refine WC.ret ?_
  obtain rfl := Option.some.inj h
  refine KB.ret (vs := [(.bool y7)]) (res_tmp rfl res_nil) (fl_cons' rfl rfl) ?_
  exact rfl
def F37_L0 (k : Nat) (a376 : Sl Int) (a378 : Int) : Nat → Int → Str → Option (Int × Str)
 | 0, _, _ => none
 | n + 1, x379, w375 =>
  if decide (x379 < a378) then
  Option.bind (Sl.at? a376 x379) fun y470 =>
  Option.bind (if (((((decide (y470 < 32)) || (decide (y470 > 126))) || (y470 == 42)) || (y470 == 40)) || (y470 == 41)) || (y470 == 92) then
  Option.bind (Str.byte? w375 92) fun z548 =>
  Option.bind (shr? .u8 y470 4) fun z549 =>
  Option.bind (Str.at? [48, 49, 50, 51, 52, 53, 54, 55, 56, 57, 97, 98, 99, 100, 101, 102] z549) fun c550 =>
  Option.bind (Str.byte? z548 c550) fun z552 =>
  Option.bind (Str.at? [48, 49, 50, 51, 52, 53, 54, 55, 56, 57, 97, 98, 99, 100, 101, 102] (bAnd .u8 y470 15)) fun c553 =>
  Option.bind (Str.byte? z552 c553) fun z555 =>
  some z555
  else
  Option.bind (Str.byte? w375 y470) fun z557 =>
  some z557) fun y544 =>
  F37_L0 k a376 a378 n (ad .i64 x379 1) y544
  else
  some (x379, w375)
def F37 (k : Nat) (a0 : Str) : Option Str :=
 Option.bind (F37_L0 k (Str.bytes a0) (Sl.len (Str.bytes a0)) k 0 []) fun y561 =>
 some y561.2
theorem l37_L0 {k : Nat} {a376 : Sl Int} {a378 : Int} {S0 : List SObj} {R : List Nat} {K : KX} {i1 : Nat} {v377 : PV} (hv377 : IsSl (eI .u8) a376 v377)  {o : (Int × Str)}
  (hbrk : ∀ {σ' : Nat → PV} {S' : List SObj}, ∀ (v560 : PV) (_ : IsBd o.2 v560), Known [(3, (.ptr i1 0))] σ' → Hp S0 R S' [(i1, bdO 55 v560)] [] [(v560, .buf o.2 5)] → K (.exit 0) σ' S' true) :
  ∀ {n : Nat} {x379 : Int} {w375 : Str}, F37_L0 k a376 a378 n x379 w375 = some o → ∀ {σ : Nat → PV} {S : List SObj}, ∀ (v374 : PV) (_ : IsBd w375 v374), Known [(3, (.ptr i1 0)), (7, v377), (8, (.int .i64 a378)), (9, (.int .i64 x379))] σ → Hp S0 R S [(i1, bdO 55 v374)] [] [(v374, .buf w375 5)] → WC env ⟨49, S0.length⟩ (.loop pc37L0) σ S true K := by
 intro n
 induction n with
 | zero => intro _ _ h; cases h
 | succ n ih =>
  intro x379 w375 h σ S v374 hv374 hk H
  rw [F37_L0] at h
  refine WC.loop ?_
  refine WC.of_known hk ?_
  refine WC.seqR ?_
  refine WS (v := (.bool (decide (x379 < a378)))) rfl (nz rfl rfl) ?_
  refine WO.nil ?_
  refine WC.seq ?_
  rcases iteS h with ⟨hc559, h⟩ | ⟨hc559, h⟩
  ·refine WC.condT rfl hc559 ?_
   refine WC.skip ?_
   refine KX.seq_n ?_
   refine WC.seq ?_
   refine WC.block ?_
   refine WC.seqR ?_
   obtain ⟨y470, hy470, h⟩ := bindS h
   refine WS (v := (.iptr [(.int .u8 y470)] 0)) rfl (nz rfl (stp_idxAddr rfl hv377 rfl rfl rfl hy470 rfl rfl)) ?_
   refine WS (v := .int .u8 y470) rfl (nz rfl rfl) ?_
   refine WS (v := .int .u8 y470) rfl (nz rfl rfl) ?_
   refine WO.nil ?_
   refine WC.block ?_
   refine WC.seqR ?_
   refine WS (v := .int .u8 y470) rfl (nz rfl rfl) ?_
   refine WS (v := (.bool (decide (y470 < 32)))) rfl (nz rfl rfl) ?_
   refine WS (v := (.bool (decide (y470 < 32)))) rfl (nz rfl rfl) ?_
   refine WO.split 3 (fun σ' S' e' => Known ([(3, (.ptr i1 0)), (5, (.int .u8 y470)), (7, v377), (8, (.int .i64 a378)), (9, (.int .i64 x379)), (21, (.bool ((decide (y470 < 32)) || (decide (y470 > 126)))))]) σ' ∧ Hp S0 R S' [(i1, bdO 55 v374)] [] [(v374, .buf w375 5)] ∧ e' = true) ?_ ?_
   ·revert H
    cases hc515 : (decide (y470 < 32))
    ·intro H
     refine WO.go0 rfl rfl ?_
     refine WS (v := .int .u8 y470) rfl (nz rfl rfl) ?_
     refine WO.go0 rfl rfl ?_
     refine WS (v := (.bool (decide (y470 > 126)))) rfl (nz rfl rfl) ?_
     refine WS (v := (.bool (decide (y470 > 126)))) rfl (nz rfl rfl) ?_
     refine WO.nil ?_
     exact ⟨(kc rfl (kc rfl (kc rfl (kc rfl (kc rfl (kc rfl known_nil)))))), H, rfl⟩
    ·intro H
     refine WO.by rfl rfl rfl ?_
     refine WO.by rfl rfl rfl ?_
     refine WS (v := .bool true) rfl (nz rfl rfl) ?_
     refine WO.nil ?_
     exact ⟨(kc rfl (kc rfl (kc rfl (kc rfl (kc rfl (kc rfl known_nil)))))), H, rfl⟩
   ·rintro σ S e ⟨hk, H, rfl⟩
    refine WO.of_known hk ?_
    refine WS (v := (.bool ((decide (y470 < 32)) || (decide (y470 > 126))))) rfl (nz rfl rfl) ?_
    refine WO.split 3 (fun σ' S' e' => Known ([(3, (.ptr i1 0)), (5, (.int .u8 y470)), (7, v377), (8, (.int .i64 a378)), (9, (.int .i64 x379)), (25, (.bool (((decide (y470 < 32)) || (decide (y470 > 126))) || (y470 == 42))))]) σ' ∧ Hp S0 R S' [(i1, bdO 55 v374)] [] [(v374, .buf w375 5)] ∧ e' = true) ?_ ?_
    ·revert H
     cases hc516 : ((decide (y470 < 32)) || (decide (y470 > 126)))
     ·intro H
      refine WO.go0 rfl rfl ?_
      refine WS (v := .int .u8 y470) rfl (nz rfl rfl) ?_
      refine WO.go0 rfl rfl ?_
      refine WS (v := (.bool (y470 == 42))) rfl (nz rfl rfl) ?_
      refine WS (v := (.bool (y470 == 42))) rfl (nz rfl rfl) ?_
      refine WO.nil ?_
      exact ⟨(kc rfl (kc rfl (kc rfl (kc rfl (kc rfl (kc rfl known_nil)))))), H, rfl⟩
     ·intro H
      refine WO.by rfl rfl rfl ?_
      refine WO.by rfl rfl rfl ?_
      refine WS (v := .bool true) rfl (nz rfl rfl) ?_
      refine WO.nil ?_
      exact ⟨(kc rfl (kc rfl (kc rfl (kc rfl (kc rfl (kc rfl known_nil)))))), H, rfl⟩
    ·rintro σ S e ⟨hk, H, rfl⟩
     refine WO.of_known hk ?_
     refine WS (v := (.bool (((decide (y470 < 32)) || (decide (y470 > 126))) || (y470 == 42)))) rfl (nz rfl rfl) ?_
     refine WO.split 3 (fun σ' S' e' => Known ([(3, (.ptr i1 0)), (5, (.int .u8 y470)), (7, v377), (8, (.int .i64 a378)), (9, (.int .i64 x379)), (29, (.bool ((((decide (y470 < 32)) || (decide (y470 > 126))) || (y470 == 42)) || (y470 == 40))))]) σ' ∧ Hp S0 R S' [(i1, bdO 55 v374)] [] [(v374, .buf w375 5)] ∧ e' = true) ?_ ?_
     ·revert H
      cases hc517 : (((decide (y470 < 32)) || (decide (y470 > 126))) || (y470 == 42))
      ·intro H
       refine WO.go0 rfl rfl ?_
       refine WS (v := .int .u8 y470) rfl (nz rfl rfl) ?_
       refine WO.go0 rfl rfl ?_
       refine WS (v := (.bool (y470 == 40))) rfl (nz rfl rfl) ?_
       refine WS (v := (.bool (y470 == 40))) rfl (nz rfl rfl) ?_
       refine WO.nil ?_
       exact ⟨(kc rfl (kc rfl (kc rfl (kc rfl (kc rfl (kc rfl known_nil)))))), H, rfl⟩
      ·intro H
       refine WO.by rfl rfl rfl ?_
       refine WO.by rfl rfl rfl ?_
       refine WS (v := .bool true) rfl (nz rfl rfl) ?_
       refine WO.nil ?_
       exact ⟨(kc rfl (kc rfl (kc rfl (kc rfl (kc rfl (kc rfl known_nil)))))), H, rfl⟩
     ·rintro σ S e ⟨hk, H, rfl⟩
      refine WO.of_known hk ?_
      refine WS (v := (.bool ((((decide (y470 < 32)) || (decide (y470 > 126))) || (y470 == 42)) || (y470 == 40)))) rfl (nz rfl rfl) ?_
      refine WO.split 3 (fun σ' S' e' => Known ([(3, (.ptr i1 0)), (5, (.int .u8 y470)), (7, v377), (8, (.int .i64 a378)), (9, (.int .i64 x379)), (33, (.bool (((((decide (y470 < 32)) || (decide (y470 > 126))) || (y470 == 42)) || (y470 == 40)) || (y470 == 41))))]) σ' ∧ Hp S0 R S' [(i1, bdO 55 v374)] [] [(v374, .buf w375 5)] ∧ e' = true) ?_ ?_
      ·revert H
       cases hc518 : ((((decide (y470 < 32)) || (decide (y470 > 126))) || (y470 == 42)) || (y470 == 40))
       ·intro H
        refine WO.go0 rfl rfl ?_
        refine WS (v := .int .u8 y470) rfl (nz rfl rfl) ?_
        refine WO.go0 rfl rfl ?_
        refine WS (v := (.bool (y470 == 41))) rfl (nz rfl rfl) ?_
        refine WS (v := (.bool (y470 == 41))) rfl (nz rfl rfl) ?_
        refine WO.nil ?_
        exact ⟨(kc rfl (kc rfl (kc rfl (kc rfl (kc rfl (kc rfl known_nil)))))), H, rfl⟩
       ·intro H
        refine WO.by rfl rfl rfl ?_
        refine WO.by rfl rfl rfl ?_
        refine WS (v := .bool true) rfl (nz rfl rfl) ?_
        refine WO.nil ?_
        exact ⟨(kc rfl (kc rfl (kc rfl (kc rfl (kc rfl (kc rfl known_nil)))))), H, rfl⟩
      ·rintro σ S e ⟨hk, H, rfl⟩
       refine WO.of_known hk ?_
       refine WS (v := (.bool (((((decide (y470 < 32)) || (decide (y470 > 126))) || (y470 == 42)) || (y470 == 40)) || (y470 == 41)))) rfl (nz rfl rfl) ?_
       refine WO.split 3 (fun σ' S' e' => Known ([(3, (.ptr i1 0)), (5, (.int .u8 y470)), (7, v377), (8, (.int .i64 a378)), (9, (.int .i64 x379)), (37, (.bool ((((((decide (y470 < 32)) || (decide (y470 > 126))) || (y470 == 42)) || (y470 == 40)) || (y470 == 41)) || (y470 == 92))))]) σ' ∧ Hp S0 R S' [(i1, bdO 55 v374)] [] [(v374, .buf w375 5)] ∧ e' = true) ?_ ?_
       ·revert H
        cases hc519 : (((((decide (y470 < 32)) || (decide (y470 > 126))) || (y470 == 42)) || (y470 == 40)) || (y470 == 41))
        ·intro H
         refine WO.go0 rfl rfl ?_
         refine WS (v := .int .u8 y470) rfl (nz rfl rfl) ?_
         refine WO.go0 rfl rfl ?_
         refine WS (v := (.bool (y470 == 92))) rfl (nz rfl rfl) ?_
         refine WS (v := (.bool (y470 == 92))) rfl (nz rfl rfl) ?_
         refine WO.nil ?_
         exact ⟨(kc rfl (kc rfl (kc rfl (kc rfl (kc rfl (kc rfl known_nil)))))), H, rfl⟩
        ·intro H
         refine WO.by rfl rfl rfl ?_
         refine WO.by rfl rfl rfl ?_
         refine WS (v := .bool true) rfl (nz rfl rfl) ?_
         refine WO.nil ?_
         exact ⟨(kc rfl (kc rfl (kc rfl (kc rfl (kc rfl (kc rfl known_nil)))))), H, rfl⟩
       ·rintro σ S e ⟨hk, H, rfl⟩
        refine WO.of_known hk ?_
        refine WS (v := (.bool ((((((decide (y470 < 32)) || (decide (y470 > 126))) || (y470 == 42)) || (y470 == 40)) || (y470 == 41)) || (y470 == 92)))) rfl (nz rfl rfl) ?_
        refine WO.nil ?_
        obtain ⟨y544, hy544, hOy544⟩ := bindS h
        refine WC.join (fun σ' S' e' => ∃ v546, IsBd y544 v546 ∧ Known ([(3, (.ptr i1 0)), (7, v377), (8, (.int .i64 a378)), (9, (.int .i64 x379))]) σ' ∧ Hp S0 R S' [(i1, bdO 55 v546)] [] [(v546, .buf y544 5)] ∧ e' = true) ?_ ?_
        ·replace h := hy544
         rcases iteS h with ⟨hc558, h⟩ | ⟨hc558, h⟩
         ·refine WC.condT rfl hc558 ?_
          refine WC.seqR ?_
          obtain ⟨z548, hz548, h⟩ := bindS h
          refine WO.bdW rfl (call_bdB 0 0 rfl rfl rfl H rfl rfl rfl hv374 hz548) ?_
          rintro v547 S ⟨hv547, H⟩
          replace H : Hp S0 R _ [(i1, bdO 55 v547)] [] [(v547, .buf z548 5)] := H
          refine WO.nil ?_
          refine WC.seqR ?_
          refine WS (v := .int .u8 y470) rfl (nz rfl rfl) ?_
          obtain ⟨z549, hz549, h⟩ := bindS h
          refine WS (v := .int .u8 z549) rfl (nz rfl (stp_shr rfl rfl hz549)) ?_
          obtain ⟨c550, hc550, h⟩ := bindS h
          refine WS (v := .int .u8 c550) rfl (nz rfl (stp_idxStr rfl rfl rfl hc550)) ?_
          obtain ⟨z552, hz552, h⟩ := bindS h
          refine WO.bdW rfl (call_bdB 0 0 rfl rfl rfl H rfl rfl rfl hv547 hz552) ?_
          rintro v551 S ⟨hv551, H⟩
          replace H : Hp S0 R _ [(i1, bdO 55 v551)] [] [(v551, .buf z552 5)] := H
          refine WO.nil ?_
          refine WC.region ?_
          refine WS (v := .int .u8 y470) rfl (nz rfl rfl) ?_
          refine WS (v := (.int .u8 (bAnd .u8 y470 15))) rfl (nz rfl rfl) ?_
          obtain ⟨c553, hc553, h⟩ := bindS h
          refine WS (v := .int .u8 c553) rfl (nz rfl (stp_idxStr rfl rfl rfl hc553)) ?_
          obtain ⟨z555, hz555, h⟩ := bindS h
          refine WO.bdW rfl (call_bdB 0 0 rfl rfl rfl H rfl rfl rfl hv551 hz555) ?_
          rintro v554 S ⟨hv554, H⟩
          replace H : Hp S0 R _ [(i1, bdO 55 v554)] [] [(v554, .buf z555 5)] := H
          refine WO.nil ?_
          refine KX.seq_n ?_
          obtain rfl := Option.some.inj h
          exact ⟨v554, hv554, (kc rfl (kc rfl (kc rfl (kc rfl known_nil)))), (H.sub (.cons_cons _ .slnil) .slnil (.cons_cons _ .slnil)), rfl⟩
         ·refine WC.condF rfl hc558 ?_
          refine WC.region ?_
          refine WS (v := .int .u8 y470) rfl (nz rfl rfl) ?_
          obtain ⟨z557, hz557, h⟩ := bindS h
          refine WO.bdW rfl (call_bdB 0 0 rfl rfl rfl H rfl rfl rfl hv374 hz557) ?_
          rintro v556 S ⟨hv556, H⟩
          replace H : Hp S0 R _ [(i1, bdO 55 v556)] [] [(v556, .buf z557 5)] := H
          refine WO.nil ?_
          refine KX.seq_n ?_
          obtain rfl := Option.some.inj h
          exact ⟨v556, hv556, (kc rfl (kc rfl (kc rfl (kc rfl known_nil)))), (H.sub (.cons_cons _ .slnil) .slnil (.cons_cons _ .slnil)), rfl⟩
        ·rintro σ S e ⟨v546, hw545, hk, H, rfl⟩
         replace h := hOy544
         refine KX.of_known hk ?_
         refine KX.block_n ?_
         refine KX.block_n ?_
         refine KX.seq_n ?_
         refine WC.region ?_
         refine WS (v := (.int .i64 (ad .i64 x379 1))) rfl (nz rfl rfl) ?_
         refine WS (v := (.int .i64 (ad .i64 x379 1))) rfl (nz rfl rfl) ?_
         refine WO.nil ?_
         refine KX.seq_n ?_
         exact ih h v546 (hw545) (kc rfl (kc rfl (kc rfl (kc rfl known_nil)))) (H.sub (.cons_cons _ .slnil) .slnil (.cons_cons _ .slnil))
  ·refine WC.condF rfl hc559 ?_
   refine WC.exit ?_
   refine KX.seq_x ?_
   refine KX.seq_x ?_
   obtain rfl := Option.some.inj h
   exact hbrk v374 (hv374) (kc rfl known_nil) (H.sub (.cons_cons _ .slnil) .slnil (.cons_cons _ .slnil))
theorem s37 : ∀ k : Nat, ∀ {a0 : Str} {r : Str}, F37 k a0 = some r → ∀ {vs : List PV}, vs.map PV.strip = [(.str a0)] → ∀ S : List SObj, evw env 37 vs S = some ((.str r), S, false) := by
 intro k a0 r h vs ha S
 unfold F37 at h
 refine evw_pureW (pf := fn37) rfl rfl ha (Nat.le_of_ble_eq_true rfl) rfl rfl ?_
 refine WB.ofE (K := fun v _ => v.strip = _) (pf := fn37) rfl ?_
 have H := Hp.start []
 refine WC.seqR ?_
 refine WS (v := .str []) rfl (nz rfl rfl) ?_
 refine WO.nil ?_
 refine WC.seqR ?_
 refine WO.bdNew (ti := ty55) 5 rfl H rfl rfl rfl ?_
 intro i1 S hi1 H
 replace H : Hp [] [] _ [(i1, bdO 55 .poison)] [] [(.poison, .buf [] 5)] := H
 refine WO.nil ?_
 refine WC.seq ?_
 refine WC.seqR ?_
 refine WS (v := .str a0) rfl (nz rfl rfl) ?_
 refine WO.ex rfl (nzx rfl (stp_bytes rfl rfl rfl rfl H)) ?_
 rintro v3 S ⟨hv3, H⟩
 replace H : Hp [] [] _ [(i1, bdO 55 .poison)] [(v3, 1)] [(.poison, .buf [] 5)] := H
 refine WS (v := (.int .i64 (Sl.len (Str.bytes a0)))) rfl (nz rfl (stp_len rfl hv3 rfl)) ?_
 refine WS (v := .int .i64 0) rfl (nz rfl rfl) ?_
 refine WO.nil ?_
 obtain ⟨y561, hy561, hOy561⟩ := bindS h
 refine WC.block ?_
 refine l37_L0 (hv3) ?_ hy561 .poison (isBd_new) (kc rfl (kc rfl (kc rfl (kc rfl known_nil)))) (H.sub (.cons_cons _ .slnil) (.cons _ .slnil) (.cons_cons _ .slnil))
 ·intro σ S v562 hv562 hk H; replace h := hOy561
  refine KX.of_known hk ?_
  refine KX.block_x ?_
  refine KX.seq_n ?_
  refine WC.seqR ?_
  refine WO.bdT rfl (call_bdT 0 0 rfl rfl rfl H rfl rfl rfl hv562) ?_
  intro S H
  replace H : Hp [] [] _ [] [] [] := H
  refine WS (v := .str y561.2) rfl (nz rfl rfl) ?_
  refine WO.nil ?_
  refine WC.ret ?_
  obtain rfl := Option.some.inj h
  refine KB.ret (vs := [(.str y561.2)]) (res_tmp rfl res_nil) (fl_cons' rfl rfl) ?_
  exact rfl
def F24_L1 (rc0 : Api_Filter → Option Str) (k : Nat) (a1104 : Sl Api_Filter) (a1105 : Int) (a1107 : Api_Filter) : Nat → Int → Str → Option (Int × Str)
 | 0, _, _ => none
 | n + 1, x1106, w1103 =>
  if decide (x1106 < a1105) then
  Option.bind (Sl.at? a1104 x1106) fun y1114 =>
  Option.bind (rc0 y1114) fun y1116 =>
  Option.bind (Str.put? w1103 y1116) fun z1118 =>
  F24_L1 rc0 k a1104 a1105 a1107 n (ad .i64 x1106 1) z1118
  else
  some (x1106, w1103)
def F24_L3 (rc0 : Api_Filter → Option Str) (k : Nat) (a1385 : Sl Str) (a1386 : Int) (a1388 : Api_Filter) : Nat → (Sl Str) → Int → Option ((Sl Str) × Int)
 | 0, _, _ => none
 | n + 1, x1383, x1387 =>
  if decide (x1387 < a1386) then
  Option.bind (Sl.at? a1385 x1387) fun y1395 =>
  Option.bind (F37 k y1395) fun y1396 =>
  Option.bind (Sl.app? 16 x1383 (Sl.l (some [y1396]))) fun z1398 =>
  F24_L3 rc0 k a1385 a1386 a1388 n z1398 (ad .i64 x1387 1)
  else
  some (x1383, x1387)
def F24 : Nat → Api_Filter → Option Str
 | 0, _ => none
 | k + 1, a0 =>
  Option.bind (if a0.Kind == 1 then
  some (a0.Kind == 1)
  else
  Option.bind (if a0.Kind == 2 then
  some (a0.Kind == 2)
  else
  some (a0.Kind == 3)) fun y719 =>
  some y719) fun y716 =>
  if y716 then
  Option.bind (F24_L1 (F24 k) k a0.Kids (Sl.len a0.Kids) a0 k 0 []) fun y1121 =>
  Option.bind (Sl.at? (some [[], [38], [124], [33]]) a0.Kind) fun y1123 =>
  Option.bind (Str.app? [40] y1123) fun z1124 =>
  Option.bind (Str.app? z1124 y1121.2) fun z1126 =>
  Option.bind (Str.app? z1126 [41]) fun z1127 =>
  some z1127
  else
  if a0.Kind == 7 then
  Option.bind (Str.app? [40] a0.Attr) fun z1269 =>
  Option.bind (Str.app? z1269 [61, 42, 41]) fun z1270 =>
  some z1270
  else
  if a0.Kind == 8 then
  Option.bind (F24_L3 (F24 k) k a0.Subs (Sl.len a0.Subs) a0 k none 0) fun y1402 =>
  Option.bind (Str.app? [40] a0.Attr) fun z1404 =>
  Option.bind (Str.app? z1404 [61]) fun z1405 =>
  Option.bind (Sl.join? y1402.1 [42]) fun y1406 =>
  Option.bind (Str.app? z1405 y1406) fun z1407 =>
  Option.bind (Str.app? z1407 [41]) fun z1408 =>
  some z1408
  else
  Option.bind (Sl.at? (some [[], [], [], [], [61], [62, 61], [60, 61]]) a0.Kind) fun y1409 =>
  Option.bind (Str.app? [40] a0.Attr) fun z1410 =>
  Option.bind (Str.app? z1410 y1409) fun z1411 =>
  Option.bind (F37 k a0.Value) fun y1412 =>
  Option.bind (Str.app? z1411 y1412) fun z1413 =>
  Option.bind (Str.app? z1413 [41]) fun z1414 =>
  some z1414
theorem l24_L1 {rc0 : Api_Filter → Option Str} (hrc0 : ∀ {a0 : Api_Filter} {r : Str}, rc0 a0 = some r → ∀ {vs : List PV}, vs.map PV.strip = [(.agg [(.int .i64 a0.Kind), (.str a0.Attr), (.str a0.Value), (encSl eS a0.Subs), (encSl e_Api_Filter a0.Kids)])] → ∀ S : List SObj, evw env 24 vs S = some ((.str r), S, false)) {k : Nat} {a1104 : Sl Api_Filter} {a1105 : Int} {a1107 : Api_Filter} {S0 : List SObj} {R : List Nat} {K : KX} {i1 : Nat} {i1066 : Nat} (hi1 : S0.length ≤ i1)  {o : (Int × Str)}
  (hbrk : ∀ {σ' : Nat → PV} {S' : List SObj}, ∀ (v1120 : PV) (_ : IsBd o.2 v1120), Known [(1, (.ptr i1 0)), (3, (.ptr i1066 0))] σ' → Hp S0 R S' [(i1, .cells [(.int .i64 a1107.Kind), (.str a1107.Attr), (.str a1107.Value), (encSl eS a1107.Subs), (encSl e_Api_Filter a1107.Kids)]), (i1066, bdO 55 v1120)] [] [(v1120, .buf o.2 5)] → K (.exit 1) σ' S' true) :
  ∀ {n : Nat} {x1106 : Int} {w1103 : Str}, F24_L1 rc0 k a1104 a1105 a1107 n x1106 w1103 = some o → ∀ {σ : Nat → PV} {S : List SObj}, ∀ (v1102 : PV) (_ : IsBd w1103 v1102), Known [(1, (.ptr i1 0)), (3, (.ptr i1066 0)), (17, (encSl e_Api_Filter a1104)), (18, (.int .i64 a1105)), (19, (.int .i64 x1106))] σ → Hp S0 R S [(i1, .cells [(.int .i64 a1107.Kind), (.str a1107.Attr), (.str a1107.Value), (encSl eS a1107.Subs), (encSl e_Api_Filter a1107.Kids)]), (i1066, bdO 55 v1102)] [] [(v1102, .buf w1103 5)] → WC env ⟨78, S0.length⟩ (.loop pc24L1) σ S true K := by
 intro n
 induction n with
 | zero => intro _ _ h; cases h
 | succ n ih =>
  intro x1106 w1103 h σ S v1102 hv1102 hk H
  rw [F24_L1] at h
  refine WC.loop ?_
  refine WC.of_known hk ?_
  refine WC.seqR ?_
  refine WS (v := (.bool (decide (x1106 < a1105)))) rfl (nz rfl rfl) ?_
  refine WO.nil ?_
  refine WC.seq ?_
  rcases iteS h with ⟨hc1119, h⟩ | ⟨hc1119, h⟩
  ·refine WC.condT rfl hc1119 ?_
   refine WC.skip ?_
   refine KX.seq_n ?_
   refine WC.seq ?_
   refine WC.block ?_
   refine WC.seqR ?_
   obtain ⟨y1114, hy1114, h⟩ := bindS h
   refine WS (v := (.iptr [(.int .i64 y1114.Kind), (.str y1114.Attr), (.str y1114.Value), (encSl eS y1114.Subs), (encSl e_Api_Filter y1114.Kids)] 0)) rfl (nz rfl (stp_idxAddr rfl (isSl_enc _ _) rfl rfl rfl hy1114 (e_Api_Filter_cells _) rfl)) ?_
   refine WS (v := (.agg [(.int .i64 y1114.Kind), (.str y1114.Attr), (.str y1114.Value), (encSl eS y1114.Subs), (encSl e_Api_Filter y1114.Kids)])) rfl (nz rfl rfl) ?_
   refine WO.alloc' (ti := ty25) rfl rfl rfl rfl H ?_
   intro i1115 S hi1115 H
   refine WO.store 0 rfl rfl H rfl rfl rfl rfl rfl rfl rfl (Nat.le_of_ble_eq_true rfl) rfl (own_e hi1115) ?_
   intro S H
   replace H : Hp S0 R _ [(i1115, .cells [(.int .i64 y1114.Kind), (.str y1114.Attr), (.str y1114.Value), (encSl eS y1114.Subs), (encSl e_Api_Filter y1114.Kids)]), (i1, .cells [(.int .i64 a1107.Kind), (.str a1107.Attr), (.str a1107.Value), (encSl eS a1107.Subs), (encSl e_Api_Filter a1107.Kids)]), (i1066, bdO 55 v1102)] [] [(v1102, .buf w1103 5)] := H
   refine WO.nil ?_
   refine WC.region ?_
   refine WS (v := (.agg [(.int .i64 y1114.Kind), (.str y1114.Attr), (.str y1114.Value), (encSl eS y1114.Subs), (encSl e_Api_Filter y1114.Kids)])) rfl (nz rfl (stp_load rfl (H.get 0 rfl) rfl)) ?_
   obtain ⟨y1116, hy1116, h⟩ := bindS h
   refine WS (v := .str y1116) rfl (nz rfl (stp_call (vs := [(.agg [(.int .i64 y1114.Kind), (.str y1114.Attr), (.str y1114.Value), (encSl eS y1114.Subs), (encSl e_Api_Filter y1114.Kids)])]) rfl rfl (hrc0 hy1116 (by simp only [st_agg, List.map_cons, List.map_nil, st1_int, st1_str, strip1_enc, e_Api_Filter_eq, tupled]) _))) ?_
   obtain ⟨z1118, hz1118, h⟩ := bindS h
   refine WO.bdW rfl (call_bdS 2 0 rfl rfl rfl H rfl rfl rfl hv1102 hz1118) ?_
   rintro v1117 S ⟨hv1117, H⟩
   replace H : Hp S0 R _ [(i1115, .cells [(.int .i64 y1114.Kind), (.str y1114.Attr), (.str y1114.Value), (encSl eS y1114.Subs), (encSl e_Api_Filter y1114.Kids)]), (i1, .cells [(.int .i64 a1107.Kind), (.str a1107.Attr), (.str a1107.Value), (encSl eS a1107.Subs), (encSl e_Api_Filter a1107.Kids)]), (i1066, bdO 55 v1117)] [] [(v1117, .buf z1118 5)] := H
   refine WO.nil ?_
   refine KX.block_n ?_
   refine KX.seq_n ?_
   refine WC.region ?_
   refine WS (v := (.int .i64 (ad .i64 x1106 1))) rfl (nz rfl rfl) ?_
   refine WS (v := (.int .i64 (ad .i64 x1106 1))) rfl (nz rfl rfl) ?_
   refine WO.nil ?_
   refine KX.seq_n ?_
   exact ih h v1117 (hv1117) (kc rfl (kc rfl (kc rfl (kc rfl (kc rfl known_nil))))) (H.sub (.cons _ (.cons_cons _ (.cons_cons _ .slnil))) .slnil (.cons_cons _ .slnil))
  ·refine WC.condF rfl hc1119 ?_
   refine WC.exit ?_
   refine KX.seq_x ?_
   refine KX.seq_x ?_
   obtain rfl := Option.some.inj h
   exact hbrk v1102 (hv1102) (kc rfl (kc rfl known_nil)) (H.sub (.cons_cons _ (.cons_cons _ .slnil)) .slnil (.cons_cons _ .slnil))
theorem l24_L3 {rc0 : Api_Filter → Option Str} (hrc0 : ∀ {a0 : Api_Filter} {r : Str}, rc0 a0 = some r → ∀ {vs : List PV}, vs.map PV.strip = [(.agg [(.int .i64 a0.Kind), (.str a0.Attr), (.str a0.Value), (encSl eS a0.Subs), (encSl e_Api_Filter a0.Kids)])] → ∀ S : List SObj, evw env 24 vs S = some ((.str r), S, false)) {k : Nat} {a1385 : Sl Str} {a1386 : Int} {a1388 : Api_Filter} {S0 : List SObj} {R : List Nat} {K : KX} {i1 : Nat} (hi1 : S0.length ≤ i1)  {o : ((Sl Str) × Int)}
  (hbrk : ∀ {σ' : Nat → PV} {S' : List SObj}, ∀ (v1401 : PV) (_ : IsSl eS o.1 v1401), Known [(1, (.ptr i1 0)), (6, v1401)] σ' → Hp S0 R S' [(i1, .cells [(.int .i64 a1388.Kind), (.str a1388.Attr), (.str a1388.Value), (encSl eS a1388.Subs), (encSl e_Api_Filter a1388.Kids)])] [(v1401, 1)] [] → K (.exit 3) σ' S' true) :
  ∀ {n : Nat} {x1383 : Sl Str} {x1387 : Int}, F24_L3 rc0 k a1385 a1386 a1388 n x1383 x1387 = some o → ∀ {σ : Nat → PV} {S : List SObj}, ∀ (v1384 : PV) (_ : IsSl eS x1383 v1384), Known [(1, (.ptr i1 0)), (6, v1384), (44, (encSl eS a1385)), (45, (.int .i64 a1386)), (46, (.int .i64 x1387))] σ → Hp S0 R S [(i1, .cells [(.int .i64 a1388.Kind), (.str a1388.Attr), (.str a1388.Value), (encSl eS a1388.Subs), (encSl e_Api_Filter a1388.Kids)])] [(v1384, 1)] [] → WC env ⟨78, S0.length⟩ (.loop pc24L3) σ S true K := by
 intro n
 induction n with
 | zero => intro _ _ h; cases h
 | succ n ih =>
  intro x1383 x1387 h σ S v1384 hv1384 hk H
  rw [F24_L3] at h
  refine WC.loop ?_
  refine WC.of_known hk ?_
  refine WC.seqR ?_
  refine WS (v := (.bool (decide (x1387 < a1386)))) rfl (nz rfl rfl) ?_
  refine WO.nil ?_
  refine WC.seq ?_
  rcases iteS h with ⟨hc1400, h⟩ | ⟨hc1400, h⟩
  ·refine WC.condT rfl hc1400 ?_
   refine WC.skip ?_
   refine KX.seq_n ?_
   refine WC.seq ?_
   refine WC.block ?_
   refine WC.seqR ?_
   obtain ⟨y1395, hy1395, h⟩ := bindS h
   refine WS (v := (.iptr [(.str y1395)] 0)) rfl (nz rfl (stp_idxAddr rfl (isSl_enc _ _) rfl rfl rfl hy1395 rfl rfl)) ?_
   refine WS (v := .str y1395) rfl (nz rfl rfl) ?_
   refine WS (v := .str y1395) rfl (nz rfl rfl) ?_
   refine WO.nil ?_
   refine WC.region ?_
   refine WS (v := v1384) rfl (nz rfl rfl) ?_
   refine WS (v := .str y1395) rfl (nz rfl rfl) ?_
   obtain ⟨y1396, hy1396, h⟩ := bindS h
   refine WS (v := .str y1396) rfl (nz rfl (stp_call (vs := [(.str y1395)]) rfl rfl (s37 _ hy1396 rfl _))) ?_
   refine WS rfl (nz rfl (stp_buildSlice (ys := [y1396]) (f := eS) (parts := [(0, (.str y1396))]) rfl rfl rfl rfl rfl rfl (fc ⟨rfl, rfl⟩ (fun p hp => nomatch hp)) rfl)) ?_
   have hv1397 : IsSl eS (some [y1396]) _ := ⟨.full, rfl⟩
   obtain ⟨z1398, hz1398, h⟩ := bindS h
   refine WO.ex rfl (nzx (fz_tmp' hv1397.frz rfl) (stp_app (f := eS) (ei := ty9) H 0 rfl rfl hv1384 rfl hv1397 rfl rfl rfl rfl (fun _ => rfl) hz1398)) ?_
   rintro v1399 S ⟨hv1399, H⟩
   replace H : Hp S0 R _ [(i1, .cells [(.int .i64 a1388.Kind), (.str a1388.Attr), (.str a1388.Value), (encSl eS a1388.Subs), (encSl e_Api_Filter a1388.Kids)])] [(v1399, 1)] [] := H
   refine WS (v := v1399) rfl (nz rfl rfl) ?_
   refine WO.nil ?_
   refine KX.block_n ?_
   refine KX.seq_n ?_
   refine WC.region ?_
   refine WS (v := (.int .i64 (ad .i64 x1387 1))) rfl (nz rfl rfl) ?_
   refine WS (v := (.int .i64 (ad .i64 x1387 1))) rfl (nz rfl rfl) ?_
   refine WO.nil ?_
   refine KX.seq_n ?_
   exact ih h v1399 (hv1399) (kc rfl (kc rfl (kc rfl (kc rfl (kc rfl known_nil))))) (H.sub (.cons_cons _ .slnil) (.cons_cons _ .slnil) .slnil)
  ·refine WC.condF rfl hc1400 ?_
   refine WC.exit ?_
   refine KX.seq_x ?_
   refine KX.seq_x ?_
   obtain rfl := Option.some.inj h
   exact hbrk v1384 (hv1384) (kc rfl (kc rfl known_nil)) (H.sub (.cons_cons _ .slnil) (.cons_cons _ .slnil) .slnil)
theorem s24 : ∀ k : Nat, ∀ {a0 : Api_Filter} {r : Str}, F24 k a0 = some r → ∀ {vs : List PV}, vs.map PV.strip = [(.agg [(.int .i64 a0.Kind), (.str a0.Attr), (.str a0.Value), (encSl eS a0.Subs), (encSl e_Api_Filter a0.Kids)])] → ∀ S : List SObj, evw env 24 vs S = some ((.str r), S, false) := by
 intro k
 induction k with
 | zero => intro _ r h; cases h
 | succ k ih =>
  intro a0 r h vs ha S
  rw [F24] at h
  refine evw_pureW (pf := fn24) rfl rfl ha (Nat.le_of_ble_eq_true rfl) (by simp [PV.clean, cleanL, clean_encSl clean_Api_Filter, clean_encSl clean_eS]) rfl ?_
  refine WB.ofE (K := fun v _ => v.strip = _) (pf := fn24) rfl ?_
  have H := Hp.start []
  refine WC.seqR ?_
  refine WO.box' rfl rfl rfl rfl rfl H ?_
  intro i1 S hi1 H
  refine WS (v := .str []) rfl (nz rfl rfl) ?_
  refine WO.nil ?_
  refine WC.seq ?_
  refine WC.seqR ?_
  refine WS (v := .ptr i1 0) rfl (nz rfl rfl) ?_
  refine WS (v := .int .i64 a0.Kind) rfl (nz rfl (stp_load rfl (H.get 0 rfl) rfl)) ?_
  refine WO.nil ?_
  refine WC.block ?_
  refine WC.seq ?_
  refine WC.seqR ?_
  refine WS (v := (.bool (a0.Kind == 1))) rfl (nz rfl rfl) ?_
  refine WS (v := (.bool (a0.Kind == 1))) rfl (nz rfl rfl) ?_
  refine WO.nil ?_
  obtain ⟨y716, hy716, hOy716⟩ := bindS h
  refine WC.join (fun σ' S' e' => Known ([(1, (.ptr i1 0)), (11, (.int .i64 a0.Kind)), (12, (.bool y716))]) σ' ∧ Hp [] [] S' [(i1, .cells [(.int .i64 a0.Kind), (.str a0.Attr), (.str a0.Value), (encSl eS a0.Subs), (encSl e_Api_Filter a0.Kids)])] [] [] ∧ e' = true) ?_ ?_
  ·replace h := hy716
   rcases iteS h with ⟨hc721, h⟩ | ⟨hc721, h⟩
   ·refine WC.condT rfl hc721 ?_
    refine WC.skip ?_
    refine KX.seq_n ?_
    obtain rfl := Option.some.inj h
    exact ⟨(kc rfl (kc rfl (kc rfl known_nil))), (H.sub (.cons_cons _ .slnil) .slnil .slnil), rfl⟩
   ·refine WC.condF rfl hc721 ?_
    refine WC.seqR ?_
    refine WS (v := (.bool (a0.Kind == 2))) rfl (nz rfl rfl) ?_
    refine WS (v := (.bool (a0.Kind == 2))) rfl (nz rfl rfl) ?_
    refine WO.nil ?_
    obtain ⟨y719, hy719, hOy719⟩ := bindS h
    refine WC.join (fun σ' S' e' => Known ([(1, (.ptr i1 0)), (11, (.int .i64 a0.Kind)), (12, (.bool y719))]) σ' ∧ Hp [] [] S' [(i1, .cells [(.int .i64 a0.Kind), (.str a0.Attr), (.str a0.Value), (encSl eS a0.Subs), (encSl e_Api_Filter a0.Kids)])] [] [] ∧ e' = true) ?_ ?_
    ·replace h := hy719
     rcases iteS h with ⟨hc720, h⟩ | ⟨hc720, h⟩
     ·refine WC.condT rfl hc720 ?_
      refine WC.skip ?_
      refine KX.seq_n ?_
      obtain rfl := Option.some.inj h
      exact ⟨(kc rfl (kc rfl (kc rfl known_nil))), (H.sub (.cons_cons _ .slnil) .slnil .slnil), rfl⟩
     ·refine WC.condF rfl hc720 ?_
      refine WC.region ?_
      refine WS (v := (.bool (a0.Kind == 3))) rfl (nz rfl rfl) ?_
      refine WS (v := (.bool (a0.Kind == 3))) rfl (nz rfl rfl) ?_
      refine WO.nil ?_
      refine KX.seq_n ?_
      obtain rfl := Option.some.inj h
      exact ⟨(kc rfl (kc rfl (kc rfl known_nil))), (H.sub (.cons_cons _ .slnil) .slnil .slnil), rfl⟩
    ·rintro σ S e ⟨hk, H, rfl⟩
     replace h := hOy719
     refine KX.of_known hk ?_
     refine KX.seq_n ?_
     obtain rfl := Option.some.inj h
     exact ⟨(kc rfl (kc rfl (kc rfl known_nil))), (H.sub (.cons_cons _ .slnil) .slnil .slnil), rfl⟩
  ·rintro σ S e ⟨hk, H, rfl⟩
   replace h := hOy716
   refine KX.of_known hk ?_
   refine KX.seq_n ?_
   rcases iteS h with ⟨hc1417, h⟩ | ⟨hc1417, h⟩
   ·refine WC.condT rfl hc1417 ?_
    refine WC.seqR ?_
    refine WO.bdNew (ti := ty55) 5 rfl H rfl rfl rfl ?_
    intro i1066 S hi1066 H
    replace H : Hp [] [] _ [(i1, .cells [(.int .i64 a0.Kind), (.str a0.Attr), (.str a0.Value), (encSl eS a0.Subs), (encSl e_Api_Filter a0.Kids)]), (i1066, bdO 55 .poison)] [] [(.poison, .buf [] 5)] := H
    refine WO.nil ?_
    refine WC.seq ?_
    refine WC.seqR ?_
    refine WS (v := .ptr i1 4) rfl (nz rfl rfl) ?_
    refine WS (v := (encSl e_Api_Filter a0.Kids)) rfl (nz rfl (stp_load rfl (H.get 0 rfl) rfl)) ?_
    refine WS (v := (.int .i64 (Sl.len a0.Kids))) rfl (nz rfl (stp_len rfl (isSl_enc _ _) rfl)) ?_
    refine WS (v := .int .i64 0) rfl (nz rfl rfl) ?_
    refine WO.nil ?_
    obtain ⟨y1121, hy1121, hOy1121⟩ := bindS h
    refine WC.block ?_
    refine l24_L1 ih hi1 ?_ hy1121 .poison (isBd_new) (kc rfl (kc rfl (kc rfl (kc rfl (kc rfl known_nil))))) (H.sub (.cons_cons _ (.cons_cons _ .slnil)) .slnil (.cons_cons _ .slnil))
    ·intro σ S v1122 hv1122 hk H; replace h := hOy1121
     refine KX.of_known hk ?_
     refine KX.block_x ?_
     refine KX.seq_n ?_
     refine WC.seq ?_
     refine WC.drawC ?_
     refine WK.step (v := (.agg [(.str []), (.str [38]), (.str [124]), (.str [33])])) rfl (nz rfl rfl) rfl rfl rfl rfl ?_
     refine WK.step (v := .ptr i1 0) rfl (nz rfl rfl) rfl rfl rfl rfl ?_
     refine WK.load rfl rfl (ld (H.get 0 rfl) rfl) hist_nil ?_
     obtain ⟨y1123, hy1123, h⟩ := bindS h
     refine WK.step (v := .str y1123) rfl (nz rfl (stp_idxAgg (f := eS) (xs := [[], [38], [124], [33]]) rfl rfl rfl rfl rfl hy1123)) rfl rfl rfl rfl ?_
     obtain ⟨z1124, hz1124, h⟩ := bindS h
     refine WK.step (v := .str z1124) rfl (nz rfl (stp_strApp rfl rfl hz1124)) rfl rfl rfl rfl ?_
     have Hh1125 := H
     refine WK.bdT rfl (call_bdT 1 0 rfl rfl rfl H rfl rfl rfl hv1122) rfl ?_
     intro S H
     replace H : Hp [] [] _ [(i1, .cells [(.int .i64 a0.Kind), (.str a0.Attr), (.str a0.Value), (encSl eS a0.Subs), (encSl e_Api_Filter a0.Kids)])] [] [] := H
     refine ⟨(pend_cons (ld (H.get 0 rfl) rfl) pend_nil), ?_⟩
     refine WK.nil ?_
     obtain ⟨z1126, hz1126, h⟩ := bindS h
     refine WS (v := .str z1126) rfl (nz rfl (stp_strApp rfl rfl hz1126)) ?_
     obtain ⟨z1127, hz1127, h⟩ := bindS h
     refine WS (v := .str z1127) rfl (nz rfl (stp_strApp rfl rfl hz1127)) ?_
     refine WS (v := .str z1127) rfl (nz rfl rfl) ?_
     refine WO.nil ?_
     refine KX.seq_n ?_
     refine WC.ret ?_
     refine KX.block_r ?_
     refine KX.seq_r ?_
     obtain rfl := Option.some.inj h
     refine KB.ret (vs := [(.str z1127)]) (res_tmp rfl res_nil) (fl_cons' rfl rfl) ?_
     exact rfl
   ·refine WC.condF rfl hc1417 ?_
    refine WC.seqR ?_
    refine WS (v := (.bool (a0.Kind == 7))) rfl (nz rfl rfl) ?_
    refine WS (v := (.bool (a0.Kind == 7))) rfl (nz rfl rfl) ?_
    refine WO.nil ?_
    rcases iteS h with ⟨hc1416, h⟩ | ⟨hc1416, h⟩
    ·refine WC.condT rfl hc1416 ?_
     refine WC.seqR ?_
     refine WS (v := .ptr i1 1) rfl (nz rfl rfl) ?_
     refine WS (v := .str a0.Attr) rfl (nz rfl (stp_load rfl (H.get 0 rfl) rfl)) ?_
     obtain ⟨z1269, hz1269, h⟩ := bindS h
     refine WS (v := .str z1269) rfl (nz rfl (stp_strApp rfl rfl hz1269)) ?_
     obtain ⟨z1270, hz1270, h⟩ := bindS h
     refine WS (v := .str z1270) rfl (nz rfl (stp_strApp rfl rfl hz1270)) ?_
     refine WS (v := .str z1270) rfl (nz rfl rfl) ?_
     refine WO.nil ?_
     refine WC.ret ?_
     refine KX.block_r ?_
     refine KX.seq_r ?_
     obtain rfl := Option.some.inj h
     refine KB.ret (vs := [(.str z1270)]) (res_tmp rfl res_nil) (fl_cons' rfl rfl) ?_
     exact rfl
    ·refine WC.condF rfl hc1416 ?_
     refine WC.seqR ?_
     refine WS (v := (.bool (a0.Kind == 8))) rfl (nz rfl rfl) ?_
     refine WS (v := (.bool (a0.Kind == 8))) rfl (nz rfl rfl) ?_
     refine WO.nil ?_
     rcases iteS h with ⟨hc1415, h⟩ | ⟨hc1415, h⟩
     ·refine WC.condT rfl hc1415 ?_
      refine WC.seqR ?_
      refine WS (v := .nils) rfl (nz rfl rfl) ?_
      refine WO.nil ?_
      refine WC.seq ?_
      refine WC.seqR ?_
      refine WS (v := .ptr i1 3) rfl (nz rfl rfl) ?_
      refine WS (v := (encSl eS a0.Subs)) rfl (nz rfl (stp_load rfl (H.get 0 rfl) rfl)) ?_
      refine WS (v := (.int .i64 (Sl.len a0.Subs))) rfl (nz rfl (stp_len rfl (isSl_enc _ _) rfl)) ?_
      refine WS (v := .int .i64 0) rfl (nz rfl rfl) ?_
      refine WO.nil ?_
      obtain ⟨y1402, hy1402, hOy1402⟩ := bindS h
      refine WC.block ?_
      have H := H.addNil 1
      refine l24_L3 ih hi1 ?_ hy1402 .nils ((isSl_nil _)) (kc rfl (kc rfl (kc rfl (kc rfl (kc rfl known_nil))))) (H.sub (.cons_cons _ .slnil) (.cons_cons _ .slnil) .slnil)
      ·intro σ S v1403 hv1403 hk H; replace h := hOy1402
       refine KX.of_known hk ?_
       refine KX.block_x ?_
       refine KX.seq_n ?_
       refine WC.seq ?_
       refine WC.draw ?_
       refine WH.step (v := .ptr i1 1) rfl (nz rfl rfl) rfl rfl ?_
       refine WH.step (v := .str a0.Attr) rfl (nz rfl (stp_load rfl (H.get 0 rfl) rfl)) rfl rfl ?_
       obtain ⟨z1404, hz1404, h⟩ := bindS h
       refine WH.step (v := .str z1404) rfl (nz rfl (stp_strApp rfl rfl hz1404)) rfl rfl ?_
       obtain ⟨z1405, hz1405, h⟩ := bindS h
       refine WH.step (v := .str z1405) rfl (nz rfl (stp_strApp rfl rfl hz1405)) rfl rfl ?_
       refine WH.step (v := v1403) rfl (nz rfl rfl) rfl rfl ?_
       obtain ⟨y1406, hy1406, h⟩ := bindS h
       refine WH.step (v := .str y1406) rfl (nz (fz_tmp' hv1403.frz (fz_oth' (fun _ h => by cases h) rfl)) (stp_call (vs := [v1403, (.str [42])]) rfl rfl (evw_join rfl hv1403 hy1406 _))) rfl rfl ?_
       refine WH.nil ?_
       obtain ⟨z1407, hz1407, h⟩ := bindS h
       refine WS (v := .str z1407) rfl (nz rfl (stp_strApp rfl rfl hz1407)) ?_
       obtain ⟨z1408, hz1408, h⟩ := bindS h
       refine WS (v := .str z1408) rfl (nz rfl (stp_strApp rfl rfl hz1408)) ?_
       refine WS (v := .str z1408) rfl (nz rfl rfl) ?_
       refine WO.nil ?_
       refine KX.seq_n ?_
       refine WC.ret ?_
       refine KX.block_r ?_
       refine KX.seq_r ?_
       obtain rfl := Option.some.inj h
       refine KB.ret (vs := [(.str z1408)]) (res_tmp rfl res_nil) (fl_cons' rfl rfl) ?_
       exact rfl
     ·refine WC.condF rfl hc1415 ?_
      refine WC.skip ?_
      refine KX.block_n ?_
      refine KX.seq_n ?_
      refine WC.seqR ?_
      refine WS (v := (.agg [(.str []), (.str []), (.str []), (.str []), (.str [61]), (.str [62, 61]), (.str [60, 61])])) rfl (nz rfl rfl) ?_
      refine WS (v := .ptr i1 0) rfl (nz rfl rfl) ?_
      refine WS (v := .int .i64 a0.Kind) rfl (nz rfl (stp_load rfl (H.get 0 rfl) rfl)) ?_
      obtain ⟨y1409, hy1409, h⟩ := bindS h
      refine WS (v := .str y1409) rfl (nz rfl (stp_idxAgg (f := eS) (xs := [[], [], [], [], [61], [62, 61], [60, 61]]) rfl rfl rfl rfl rfl hy1409)) ?_
      refine WS (v := .str y1409) rfl (nz rfl rfl) ?_
      refine WO.nil ?_
      refine WC.seq ?_
      refine WC.draw ?_
      refine WH.step (v := .ptr i1 1) rfl (nz rfl rfl) rfl rfl ?_
      refine WH.step (v := .str a0.Attr) rfl (nz rfl (stp_load rfl (H.get 0 rfl) rfl)) rfl rfl ?_
      obtain ⟨z1410, hz1410, h⟩ := bindS h
      refine WH.step (v := .str z1410) rfl (nz rfl (stp_strApp rfl rfl hz1410)) rfl rfl ?_
      refine WH.step (v := .str y1409) rfl (nz rfl rfl) rfl rfl ?_
      obtain ⟨z1411, hz1411, h⟩ := bindS h
      refine WH.step (v := .str z1411) rfl (nz rfl (stp_strApp rfl rfl hz1411)) rfl rfl ?_
      refine WH.step (v := .ptr i1 2) rfl (nz rfl rfl) rfl rfl ?_
      refine WH.step (v := .str a0.Value) rfl (nz rfl (stp_load rfl (H.get 0 rfl) rfl)) rfl rfl ?_
      obtain ⟨y1412, hy1412, h⟩ := bindS h
      refine WH.step (v := .str y1412) rfl (nz rfl (stp_call (vs := [(.str a0.Value)]) rfl rfl (s37 _ hy1412 rfl _))) rfl rfl ?_
      refine WH.nil ?_
      obtain ⟨z1413, hz1413, h⟩ := bindS h
      refine WS (v := .str z1413) rfl (nz rfl (stp_strApp rfl rfl hz1413)) ?_
      obtain ⟨z1414, hz1414, h⟩ := bindS h
      refine WS (v := .str z1414) rfl (nz rfl (stp_strApp rfl rfl hz1414)) ?_
      refine WS (v := .str z1414) rfl (nz rfl rfl) ?_
      refine WO.nil ?_
      refine KX.seq_n ?_
      refine WC.ret ?_
      obtain rfl := Option.some.inj h
      refine KB.ret (vs := [(.str z1414)]) (res_tmp rfl res_nil) (fl_cons' rfl rfl) ?_
      exact rfl
def F13 (k : Nat) (a0 : Api_Filter) : Option Str :=
 Option.bind (F12 k a0) fun y2 =>
 if !y2 then
 some []
 else
 Option.bind (F24 k a0) fun y4 =>
 some y4
theorem s13 : ∀ k : Nat, ∀ {a0 : Api_Filter} {r : Str}, F13 k a0 = some r → ∀ {vs : List PV}, vs.map PV.strip = [(.agg [(.int .i64 a0.Kind), (.str a0.Attr), (.str a0.Value), (encSl eS a0.Subs), (encSl e_Api_Filter a0.Kids)])] → ∀ S : List SObj, evw env 13 vs S = some ((.str r), S, false) := by
 intro k a0 r h vs ha S
 unfold F13 at h
 refine evw_pureW (pf := fn13) rfl rfl ha (Nat.le_of_ble_eq_true rfl) (by simp [PV.clean, cleanL, clean_encSl clean_Api_Filter, clean_encSl clean_eS]) rfl ?_
 refine WB.of (pf := fn13) rfl ?_
 have H := Hp.start []
 refine WC.seqR ?_
 refine WO.box' rfl rfl rfl rfl rfl H ?_
 intro i1 S hi1 H
 refine WS (v := .str []) rfl (nz rfl rfl) ?_
 refine WO.nil ?_
 refine WC.seq ?_
 refine WC.seqR ?_
 refine WS (v := (.agg [(.int .i64 a0.Kind), (.str a0.Attr), (.str a0.Value), (encSl eS a0.Subs), (encSl e_Api_Filter a0.Kids)])) rfl (nz rfl (stp_load rfl (H.get 0 rfl) rfl)) ?_
 obtain ⟨y2, hy2, h⟩ := bindS h
 refine WS (v := .bool y2) rfl (nz rfl (stp_call (vs := [(.agg [(.int .i64 a0.Kind), (.str a0.Attr), (.str a0.Value), (encSl eS a0.Subs), (encSl e_Api_Filter a0.Kids)])]) rfl rfl (s12 _ hy2 (by simp only [st_agg, List.map_cons, List.map_nil, st1_int, st1_str, strip1_enc, e_Api_Filter_eq, tupled]) _))) ?_
 refine WS (v := (.bool (!y2))) rfl (nz rfl rfl) ?_
 refine WO.nil ?_
 rcases iteS h with ⟨hc5, h⟩ | ⟨hc5, h⟩
 ·refine WC.condT rfl hc5 ?_
  refine WC.seqR ?_
  refine WS (v := .str []) rfl (nz rfl rfl) ?_
  refine WO.nil ?_
  refine WC.ret ?_
  refine KX.seq_r ?_
  obtain rfl := Option.some.inj h
  refine KB.ret (vs := [(.str [])]) (res_tmp rfl res_nil) (fl_cons' rfl rfl) ?_
  exact rfl
 ·refine WC.condF rfl hc5 ?_
  refine WC.skip ?_
  refine KX.seq_n ?_
  refine WC.seqR ?_
  refine WS (v := (.agg [(.int .i64 a0.Kind), (.str a0.Attr), (.str a0.Value), (encSl eS a0.Subs), (encSl e_Api_Filter a0.Kids)])) rfl (nz rfl (stp_load rfl (H.get 0 rfl) rfl)) ?_
  obtain ⟨y4, hy4, h⟩ := bindS h
  refine WS (v := .str y4) rfl (nz rfl (stp_call (vs := [(.agg [(.int .i64 a0.Kind), (.str a0.Attr), (.str a0.Value), (encSl eS a0.Subs), (encSl e_Api_Filter a0.Kids)])]) rfl rfl (s24 _ hy4 (by simp only [st_agg, List.map_cons, List.map_nil, st1_int, st1_str, strip1_enc, e_Api_Filter_eq, tupled]) _))) ?_
  refine WS (v := .str y4) rfl (nz rfl rfl) ?_
  refine WO.nil ?_
  refine WC.ret ?_
  obtain rfl := Option.some.inj h
  refine KB.ret (vs := [(.str y4)]) (res_tmp rfl res_nil) (fl_cons' rfl rfl) ?_
  exact rfl
def F26_L0 (k : Nat) (a29 : Sl Str) (a30 : Sl Str) (a31 : Int) : Nat → Int → Option (Out Bool Int)
 | 0, _ => none
 | n + 1, x32 =>
  if decide (x32 < a31) then
  Option.bind (Sl.at? a29 x32) fun y38 =>
  Option.bind (Sl.at? a30 x32) fun y39 =>
  if !(y38 == y39) then
  some (Out.ret false)
  else
  F26_L0 k a29 a30 a31 n (ad .i64 x32 1)
  else
  some (Out.brk x32)
def F26 (k : Nat) (a0 : Sl Str) (a1 : Sl Str) : Option Bool :=
 if (Sl.len a0) != (Sl.len a1) then
 some false
 else
 Option.bind (F26_L0 k a0 a1 (Sl.len a0) k 0) fun y43 =>
 match y43 with
 | .ret y43r => some y43r
 | .brk y43b =>
 some true
theorem l26_L0 {k : Nat} {a29 : Sl Str} {a30 : Sl Str} {a31 : Int} {S0 : List SObj} {R : List Nat} {K : KX}  {o : Out Bool Int}
  (hret : ∀ r : Bool, o = .ret r → ∀ {σ' : Nat → PV} {S' : List SObj}, Known [(4, (.bool r))] σ' → Hp S0 R S' [] [] [] → K .ret σ' S' false)
  (hbrk : ∀ y : Int, o = .brk y → ∀ {σ' : Nat → PV} {S' : List SObj}, Known [] σ' → Hp S0 R S' [] [] [] → K (.exit 0) σ' S' false) :
  ∀ {n : Nat} {x32 : Int}, F26_L0 k a29 a30 a31 n x32 = some o → ∀ {σ : Nat → PV} {S : List SObj}, Known [(0, (encSl eS a29)), (1, (encSl eS a30)), (12, (.int .i64 a31)), (13, (.int .i64 x32))] σ → Hp S0 R S [] [] [] → WC env ⟨26, S0.length⟩ (.loop pc26L0) σ S false K := by
 intro n
 induction n with
 | zero => intro _ h; cases h
 | succ n ih =>
  intro x32 h σ S  hk H
  rw [F26_L0] at h
  refine WC.loop ?_
  refine WC.of_known hk ?_
  refine WC.seqR ?_
  refine WS (v := (.bool (decide (x32 < a31)))) rfl (nz rfl rfl) ?_
  refine WO.nil ?_
  refine WC.seq ?_
  rcases iteS h with ⟨hc42, h⟩ | ⟨hc42, h⟩
  ·refine WC.condT rfl hc42 ?_
   refine WC.skip ?_
   refine KX.seq_n ?_
   refine WC.seq ?_
   refine WC.block ?_
   refine WC.seqR ?_
   refine WS (v := .int .i64 x32) rfl (nz rfl rfl) ?_
   refine WS (v := .int .i64 x32) rfl (nz rfl rfl) ?_
   refine WO.nil ?_
   refine WC.seq ?_
   refine WC.draw ?_
   refine WH.step (v := (encSl eS a29)) rfl (nz rfl rfl) rfl rfl ?_
   refine WH.step (v := .int .i64 x32) rfl (nz rfl rfl) rfl rfl ?_
   obtain ⟨y38, hy38, h⟩ := bindS h
   refine WH.step (v := (.iptr [(.str y38)] 0)) rfl (nz rfl (stp_idxAddr rfl (isSl_enc _ _) rfl rfl rfl hy38 rfl rfl)) rfl rfl ?_
   refine WH.step (v := .str y38) rfl (nz rfl rfl) rfl rfl ?_
   refine WH.step (v := (encSl eS a30)) rfl (nz rfl rfl) rfl rfl ?_
   refine WH.step (v := .int .i64 x32) rfl (nz rfl rfl) rfl rfl ?_
   obtain ⟨y39, hy39, h⟩ := bindS h
   refine WH.step (v := (.iptr [(.str y39)] 0)) rfl (nz rfl (stp_idxAddr rfl (isSl_enc _ _) rfl rfl rfl hy39 rfl rfl)) rfl rfl ?_
   refine WH.step (v := .str y39) rfl (nz rfl rfl) rfl rfl ?_
   refine WH.nil ?_
   refine WS (v := (.bool (!(y38 == y39)))) rfl (nz rfl rfl) ?_
   refine WO.nil ?_
   refine KX.seq_n ?_
   rcases iteS h with ⟨hc41, h⟩ | ⟨hc41, h⟩
   ·refine WC.condT rfl hc41 ?_
    refine WC.seqR ?_
    refine WS (v := .bool false) rfl (nz rfl rfl) ?_
    refine WO.nil ?_
    refine WC.ret ?_
    refine KX.block_r ?_
    refine KX.seq_r ?_
    refine KX.seq_r ?_
    obtain rfl := Option.some.inj h
    exact hret _ rfl (kc rfl known_nil) (H.sub .slnil .slnil .slnil)
   ·refine WC.condF rfl hc41 ?_
    refine WC.skip ?_
    refine KX.block_n ?_
    refine KX.seq_n ?_
    refine WC.region ?_
    refine WS (v := (.int .i64 (ad .i64 x32 1))) rfl (nz rfl rfl) ?_
    refine WS (v := (.int .i64 (ad .i64 x32 1))) rfl (nz rfl rfl) ?_
    refine WO.nil ?_
    refine KX.seq_n ?_
    exact ih h  (kc rfl (kc rfl (kc rfl (kc rfl known_nil)))) (H.sub .slnil .slnil .slnil)
  ·refine WC.condF rfl hc42 ?_
   refine WC.exit ?_
   refine KX.seq_x ?_
   refine KX.seq_x ?_
   obtain rfl := Option.some.inj h
   exact hbrk _ rfl  known_nil (H.sub .slnil .slnil .slnil)
theorem s26 : ∀ k : Nat, ∀ {a0 : Sl Str} {a1 : Sl Str} {r : Bool}, F26 k a0 a1 = some r → ∀ {vs : List PV}, vs.map PV.strip = [(encSl eS a0), (encSl eS a1)] → ∀ S : List SObj, evw env 26 vs S = some ((.bool r), S, false) := by
 intro k a0 a1 r h vs ha S
 unfold F26 at h
 refine evw_pureW (pf := fn26) rfl rfl ha (Nat.le_of_ble_eq_true rfl) (by simp [PV.clean, cleanL, clean_encSl clean_eS]) rfl ?_
 refine WB.of (pf := fn26) rfl ?_
 have H := Hp.start []
 refine WC.seqR ?_
 refine WS (v := .bool false) rfl (nz rfl rfl) ?_
 refine WO.nil ?_
 refine WC.seq ?_
 refine WC.seqR ?_
 refine WS (v := (encSl eS a0)) rfl (nz rfl rfl) ?_
 refine WS (v := (.int .i64 (Sl.len a0))) rfl (nz rfl (stp_len rfl (isSl_enc _ _) rfl)) ?_
 refine WS (v := (encSl eS a1)) rfl (nz rfl rfl) ?_
 refine WS (v := (.int .i64 (Sl.len a1))) rfl (nz rfl (stp_len rfl (isSl_enc _ _) rfl)) ?_
 refine WS (v := (.bool ((Sl.len a0) != (Sl.len a1)))) rfl (nz rfl rfl) ?_
 refine WO.nil ?_
 rcases iteS h with ⟨hc44, h⟩ | ⟨hc44, h⟩
 ·refine WC.condT rfl hc44 ?_
  refine WC.seqR ?_
  refine WS (v := .bool false) rfl (nz rfl rfl) ?_
  refine WO.nil ?_
  refine WC.ret ?_
  refine KX.seq_r ?_
  obtain rfl := Option.some.inj h
  refine KB.ret (vs := [(.bool false)]) (res_tmp rfl res_nil) (fl_cons' rfl rfl) ?_
  exact rfl
 ·refine WC.condF rfl hc44 ?_
  refine WC.skip ?_
  refine KX.seq_n ?_
  refine WC.seq ?_
  refine WC.seqR ?_
  refine WS (v := (encSl eS a0)) rfl (nz rfl rfl) ?_
  refine WS (v := (.int .i64 (Sl.len a0))) rfl (nz rfl (stp_len rfl (isSl_enc _ _) rfl)) ?_
  refine WS (v := .int .i64 0) rfl (nz rfl rfl) ?_
  refine WO.nil ?_
  obtain ⟨y43, hy43, hOy43⟩ := bindS h
  refine WC.block ?_
  refine l26_L0 ?_ ?_ hy43  (kc rfl (kc rfl (kc rfl (kc rfl known_nil)))) (H.sub .slnil .slnil .slnil)
  ·intro y43r he σ S  hk H; subst he; replace h := hOy43; dsimp only at h
   refine KX.of_known hk ?_
   refine KX.block_r ?_
   refine KX.seq_r ?_
   obtain rfl := Option.some.inj h
   refine KB.ret (vs := [(.bool y43r)]) (res_tmp rfl res_nil) (fl_cons' rfl rfl) ?_
   exact rfl
  ·intro y43b he σ S  hk H; subst he; replace h := hOy43; dsimp only at h
   refine KX.of_known hk ?_
   refine KX.block_x ?_
   refine KX.seq_n ?_
   refine WC.seqR ?_
   refine WS (v := .bool true) rfl (nz rfl rfl) ?_
   refine WO.nil ?_
   refine WC.ret ?_
   obtain rfl := Option.some.inj h
   refine KB.ret (vs := [(.bool true)]) (res_tmp rfl res_nil) (fl_cons' rfl rfl) ?_
   exact rfl
def F27_16_L0 (rc0 : Api_Filter → Api_Filter → Option Bool) (k : Nat) (a41 : Sl Api_Filter) (a42 : Sl Api_Filter) (a43 : Int) : Nat → Int → Option (Out Bool Int)
 | 0, _ => none
 | n + 1, x44 =>
  if decide (x44 < a43) then
  Option.bind (Sl.at? a42 x44) fun y53 =>
  Option.bind (Sl.at? a41 x44) fun y55 =>
  Option.bind (rc0 y53 y55) fun y57 =>
  if !y57 then
  some (Out.ret false)
  else
  F27_16_L0 rc0 k a41 a42 a43 n (ad .i64 x44 1)
  else
  some (Out.brk x44)
def F27_16 (k : Nat) (rc0 : Api_Filter → Api_Filter → Option Bool) (a0 : Sl Api_Filter) (a1 : Sl Api_Filter) : Option Bool :=
 if (Sl.len a0) != (Sl.len a1) then
 some false
 else
 Option.bind (F27_16_L0 rc0 k a1 a0 (Sl.len a0) k 0) fun y61 =>
 match y61 with
 | .ret y61r => some y61r
 | .brk y61b =>
 some true
theorem l27_16_L0 {rc0 : Api_Filter → Api_Filter → Option Bool} (hrc0 : ∀ {a0 : Api_Filter} {a1 : Api_Filter} {r : Bool}, rc0 a0 a1 = some r → ∀ {vs : List PV}, vs.map PV.strip = [(.agg [(.int .i64 a0.Kind), (.str a0.Attr), (.str a0.Value), (encSl eS a0.Subs), (encSl e_Api_Filter a0.Kids)]), (.agg [(.int .i64 a1.Kind), (.str a1.Attr), (.str a1.Value), (encSl eS a1.Subs), (encSl e_Api_Filter a1.Kids)])] → ∀ S : List SObj, evw env 16 vs S = some ((.bool r), S, false)) {k : Nat} {a41 : Sl Api_Filter} {a42 : Sl Api_Filter} {a43 : Int} {S0 : List SObj} {R : List Nat} {K : KX}  {o : Out Bool Int}
  (hret : ∀ r : Bool, o = .ret r → ∀ {σ' : Nat → PV} {S' : List SObj}, Known [(6, (.bool r))] σ' → Hp S0 R S' [] [] [] → K .ret σ' S' false)
  (hbrk : ∀ y : Int, o = .brk y → ∀ {σ' : Nat → PV} {S' : List SObj}, Known [] σ' → Hp S0 R S' [] [] [] → K (.exit 0) σ' S' false) :
  ∀ {n : Nat} {x44 : Int}, F27_16_L0 rc0 k a41 a42 a43 n x44 = some o → ∀ {σ : Nat → PV} {S : List SObj}, Known [(1, (encSl e_Api_Filter a41)), (2, (.fn (.func 16) [] [])), (15, (encSl e_Api_Filter a42)), (16, (.int .i64 a43)), (17, (.int .i64 x44))] σ → Hp S0 R S [] [] [] → WC env ⟨32, S0.length⟩ (.loop pc27L0) σ S false K := by
 intro n
 induction n with
 | zero => intro _ h; cases h
 | succ n ih =>
  intro x44 h σ S  hk H
  rw [F27_16_L0] at h
  refine WC.loop ?_
  refine WC.of_known hk ?_
  refine WC.seqR ?_
  refine WS (v := (.bool (decide (x44 < a43)))) rfl (nz rfl rfl) ?_
  refine WO.nil ?_
  refine WC.seq ?_
  rcases iteS h with ⟨hc60, h⟩ | ⟨hc60, h⟩
  ·refine WC.condT rfl hc60 ?_
   refine WC.skip ?_
   refine KX.seq_n ?_
   refine WC.seq ?_
   refine WC.block ?_
   refine WC.seqR ?_
   refine WS (v := .int .i64 x44) rfl (nz rfl rfl) ?_
   obtain ⟨y53, hy53, h⟩ := bindS h
   refine WS (v := (.iptr [(.int .i64 y53.Kind), (.str y53.Attr), (.str y53.Value), (encSl eS y53.Subs), (encSl e_Api_Filter y53.Kids)] 0)) rfl (nz rfl (stp_idxAddr rfl (isSl_enc _ _) rfl rfl rfl hy53 (e_Api_Filter_cells _) rfl)) ?_
   refine WS (v := (.agg [(.int .i64 y53.Kind), (.str y53.Attr), (.str y53.Value), (encSl eS y53.Subs), (encSl e_Api_Filter y53.Kids)])) rfl (nz rfl rfl) ?_
   refine WO.alloc' (ti := ty25) rfl rfl rfl rfl H ?_
   intro i54 S hi54 H
   refine WS (v := .int .i64 x44) rfl (nz rfl rfl) ?_
   refine WO.store 0 rfl rfl H rfl rfl rfl rfl rfl rfl rfl (Nat.le_of_ble_eq_true rfl) rfl (own_e hi54) ?_
   intro S H
   replace H : Hp S0 R _ [(i54, .cells [(.int .i64 y53.Kind), (.str y53.Attr), (.str y53.Value), (encSl eS y53.Subs), (encSl e_Api_Filter y53.Kids)])] [] [] := H
   refine WO.nil ?_
   refine WC.seqR ?_
   refine WS (v := (encSl e_Api_Filter a41)) rfl (nz rfl rfl) ?_
   refine WS (v := .int .i64 x44) rfl (nz rfl rfl) ?_
   obtain ⟨y55, hy55, h⟩ := bindS h
   refine WS (v := (.iptr [(.int .i64 y55.Kind), (.str y55.Attr), (.str y55.Value), (encSl eS y55.Subs), (encSl e_Api_Filter y55.Kids)] 0)) rfl (nz rfl (stp_idxAddr rfl (isSl_enc _ _) rfl rfl rfl hy55 (e_Api_Filter_cells _) rfl)) ?_
   refine WS (v := (.agg [(.int .i64 y55.Kind), (.str y55.Attr), (.str y55.Value), (encSl eS y55.Subs), (encSl e_Api_Filter y55.Kids)])) rfl (nz rfl rfl) ?_
   refine WO.alloc' (ti := ty25) rfl rfl rfl rfl H ?_
   intro i56 S hi56 H
   refine WO.store 0 rfl rfl H rfl rfl rfl rfl rfl rfl rfl (Nat.le_of_ble_eq_true rfl) rfl (own_e hi56) ?_
   intro S H
   replace H : Hp S0 R _ [(i56, .cells [(.int .i64 y55.Kind), (.str y55.Attr), (.str y55.Value), (encSl eS y55.Subs), (encSl e_Api_Filter y55.Kids)]), (i54, .cells [(.int .i64 y53.Kind), (.str y53.Attr), (.str y53.Value), (encSl eS y53.Subs), (encSl e_Api_Filter y53.Kids)])] [] [] := H
   refine WO.nil ?_
   refine WC.seqR ?_
   refine WS (v := (.fn (.func 16) [] [])) rfl (nz rfl rfl) ?_
   refine WS (v := (.agg [(.int .i64 y53.Kind), (.str y53.Attr), (.str y53.Value), (encSl eS y53.Subs), (encSl e_Api_Filter y53.Kids)])) rfl (nz rfl (stp_load rfl (H.get 1 rfl) rfl)) ?_
   refine WS (v := (.agg [(.int .i64 y55.Kind), (.str y55.Attr), (.str y55.Value), (encSl eS y55.Subs), (encSl e_Api_Filter y55.Kids)])) rfl (nz rfl (stp_load rfl (H.get 0 rfl) rfl)) ?_
   obtain ⟨y57, hy57, h⟩ := bindS h
   refine WS (v := .bool y57) rfl (nz rfl (stp_call (vs := [(.agg [(.int .i64 y53.Kind), (.str y53.Attr), (.str y53.Value), (encSl eS y53.Subs), (encSl e_Api_Filter y53.Kids)]), (.agg [(.int .i64 y55.Kind), (.str y55.Attr), (.str y55.Value), (encSl eS y55.Subs), (encSl e_Api_Filter y55.Kids)])]) rfl rfl (hrc0 hy57 (by simp only [st_agg, List.map_cons, List.map_nil, st1_int, st1_str, strip1_enc, e_Api_Filter_eq, tupled]) _))) ?_
   refine WS (v := (.bool (!y57))) rfl (nz rfl rfl) ?_
   refine WO.nil ?_
   rcases iteS h with ⟨hc59, h⟩ | ⟨hc59, h⟩
   ·refine WC.condT rfl hc59 ?_
    refine WC.seqR ?_
    refine WS (v := .bool false) rfl (nz rfl rfl) ?_
    refine WO.nil ?_
    refine WC.ret ?_
    refine KX.block_r ?_
    refine KX.seq_r ?_
    refine KX.seq_r ?_
    obtain rfl := Option.some.inj h
    exact hret _ rfl (kc rfl known_nil) (H.sub (.cons _ (.cons _ .slnil)) .slnil .slnil)
   ·refine WC.condF rfl hc59 ?_
    refine WC.skip ?_
    refine KX.block_n ?_
    refine KX.seq_n ?_
    refine WC.region ?_
    refine WS (v := (.int .i64 (ad .i64 x44 1))) rfl (nz rfl rfl) ?_
    refine WS (v := (.int .i64 (ad .i64 x44 1))) rfl (nz rfl rfl) ?_
    refine WO.nil ?_
    refine KX.seq_n ?_
    exact ih h  (kc rfl (kc rfl (kc rfl (kc rfl (kc rfl known_nil))))) (H.sub (.cons _ (.cons _ .slnil)) .slnil .slnil)
  ·refine WC.condF rfl hc60 ?_
   refine WC.exit ?_
   refine KX.seq_x ?_
   refine KX.seq_x ?_
   obtain rfl := Option.some.inj h
   exact hbrk _ rfl  known_nil (H.sub .slnil .slnil .slnil)
theorem s27_16 {rc0 : Api_Filter → Api_Filter → Option Bool} (hrc0 : ∀ {a0 : Api_Filter} {a1 : Api_Filter} {r : Bool}, rc0 a0 a1 = some r → ∀ {vs : List PV}, vs.map PV.strip = [(.agg [(.int .i64 a0.Kind), (.str a0.Attr), (.str a0.Value), (encSl eS a0.Subs), (encSl e_Api_Filter a0.Kids)]), (.agg [(.int .i64 a1.Kind), (.str a1.Attr), (.str a1.Value), (encSl eS a1.Subs), (encSl e_Api_Filter a1.Kids)])] → ∀ S : List SObj, evw env 16 vs S = some ((.bool r), S, false))  : ∀ k : Nat, ∀ {a0 : Sl Api_Filter} {a1 : Sl Api_Filter} {r : Bool}, F27_16 k rc0 a0 a1 = some r → ∀ {vs : List PV}, vs.map PV.strip = [(encSl e_Api_Filter a0), (encSl e_Api_Filter a1), (.fn (.func 16) [] [])] → ∀ S : List SObj, evw env 27 vs S = some ((.bool r), S, false) := by
 intro k a0 a1 r h vs ha S
 unfold F27_16 at h
 refine evw_pureW (pf := fn27) rfl rfl ha (Nat.le_of_ble_eq_true rfl) (by simp [PV.clean, cleanL, clean_encSl clean_Api_Filter]) rfl ?_
 refine WB.of (pf := fn27) rfl ?_
 have H := Hp.start []
 refine WC.seqR ?_
 refine WS (v := .bool false) rfl (nz rfl rfl) ?_
 refine WO.nil ?_
 refine WC.seq ?_
 refine WC.seqR ?_
 refine WS (v := (encSl e_Api_Filter a0)) rfl (nz rfl rfl) ?_
 refine WS (v := (.int .i64 (Sl.len a0))) rfl (nz rfl (stp_len rfl (isSl_enc _ _) rfl)) ?_
 refine WS (v := (encSl e_Api_Filter a1)) rfl (nz rfl rfl) ?_
 refine WS (v := (.int .i64 (Sl.len a1))) rfl (nz rfl (stp_len rfl (isSl_enc _ _) rfl)) ?_
 refine WS (v := (.bool ((Sl.len a0) != (Sl.len a1)))) rfl (nz rfl rfl) ?_
 refine WO.nil ?_
 rcases iteS h with ⟨hc62, h⟩ | ⟨hc62, h⟩
 ·refine WC.condT rfl hc62 ?_
  refine WC.seqR ?_
  refine WS (v := .bool false) rfl (nz rfl rfl) ?_
  refine WO.nil ?_
  refine WC.ret ?_
  refine KX.seq_r ?_
  obtain rfl := Option.some.inj h
  refine KB.ret (vs := [(.bool false)]) (res_tmp rfl res_nil) (fl_cons' rfl rfl) ?_
  exact rfl
 ·refine WC.condF rfl hc62 ?_
  refine WC.skip ?_
  refine KX.seq_n ?_
  refine WC.seq ?_
  refine WC.seqR ?_
  refine WS (v := (encSl e_Api_Filter a0)) rfl (nz rfl rfl) ?_
  refine WS (v := (.int .i64 (Sl.len a0))) rfl (nz rfl (stp_len rfl (isSl_enc _ _) rfl)) ?_
  refine WS (v := .int .i64 0) rfl (nz rfl rfl) ?_
  refine WO.nil ?_
  obtain ⟨y61, hy61, hOy61⟩ := bindS h
  refine WC.block ?_
  refine l27_16_L0 hrc0 ?_ ?_ hy61  (kc rfl (kc rfl (kc rfl (kc rfl (kc rfl known_nil))))) (H.sub .slnil .slnil .slnil)
  ·intro y61r he σ S  hk H; subst he; replace h := hOy61; dsimp only at h
   refine KX.of_known hk ?_
   refine KX.block_r ?_
   refine KX.seq_r ?_
   obtain rfl := Option.some.inj h
   refine KB.ret (vs := [(.bool y61r)]) (res_tmp rfl res_nil) (fl_cons' rfl rfl) ?_
   exact rfl
  ·intro y61b he σ S  hk H; subst he; replace h := hOy61; dsimp only at h
   refine KX.of_known hk ?_
   refine KX.block_x ?_
   refine KX.seq_n ?_
   refine WC.seqR ?_
   refine WS (v := .bool true) rfl (nz rfl rfl) ?_
   refine WO.nil ?_
   refine WC.ret ?_
   obtain rfl := Option.some.inj h
   refine KB.ret (vs := [(.bool true)]) (res_tmp rfl res_nil) (fl_cons' rfl rfl) ?_
   exact rfl
def F16 : Nat → Api_Filter → Api_Filter → Option Bool
 | 0, _, _ => none
 | k + 1, a0, a1 =>
  Option.bind (if ((a0.Kind == a1.Kind) && (a0.Attr == a1.Attr)) && (a0.Value == a1.Value) then
  Option.bind (F26 k a0.Subs a1.Subs) fun y10 =>
  some y10
  else
  some false) fun y9 =>
  Option.bind (if y9 then
  Option.bind (F27_16 k (F16 k) a0.Kids a1.Kids) fun y17 =>
  some y17
  else
  some false) fun y16 =>
  some y16
theorem s16 : ∀ k : Nat, ∀ {a0 : Api_Filter} {a1 : Api_Filter} {r : Bool}, F16 k a0 a1 = some r → ∀ {vs : List PV}, vs.map PV.strip = [(.agg [(.int .i64 a0.Kind), (.str a0.Attr), (.str a0.Value), (encSl eS a0.Subs), (encSl e_Api_Filter a0.Kids)]), (.agg [(.int .i64 a1.Kind), (.str a1.Attr), (.str a1.Value), (encSl eS a1.Subs), (encSl e_Api_Filter a1.Kids)])] → ∀ S : List SObj, evw env 16 vs S = some ((.bool r), S, false) := by
 intro k
 induction k with
 | zero => intro _ _ r h; cases h
 | succ k ih =>
  intro a0 a1 r h vs ha S
  rw [F16] at h
  refine evw_pureW (pf := fn16) rfl rfl ha (Nat.le_of_ble_eq_true rfl) (by simp [PV.clean, cleanL, clean_encSl clean_Api_Filter, clean_encSl clean_eS]) rfl ?_
  refine WB.of (pf := fn16) rfl ?_
  have H := Hp.start []
  refine WC.seqR ?_
  refine WO.box' rfl rfl rfl rfl rfl H ?_
  intro i1 S hi1 H
  refine WO.box' rfl rfl rfl rfl rfl H ?_
  intro i2 S hi2 H
  refine WS (v := .bool false) rfl (nz rfl rfl) ?_
  refine WO.nil ?_
  refine WC.seqR ?_
  refine WS (v := .ptr i1 0) rfl (nz rfl rfl) ?_
  refine WS (v := .int .i64 a0.Kind) rfl (nz rfl (stp_load rfl (H.get 1 rfl) rfl)) ?_
  refine WS (v := .ptr i2 0) rfl (nz rfl rfl) ?_
  refine WS (v := .int .i64 a1.Kind) rfl (nz rfl (stp_load rfl (H.get 0 rfl) rfl)) ?_
  refine WS (v := (.bool (a0.Kind == a1.Kind))) rfl (nz rfl rfl) ?_
  refine WS (v := (.bool (a0.Kind == a1.Kind))) rfl (nz rfl rfl) ?_
  refine WO.split 6 (fun σ' S' e' => Known ([(2, (.ptr i1 0)), (3, (.ptr i2 0)), (16, (.bool ((a0.Kind == a1.Kind) && (a0.Attr == a1.Attr))))]) σ' ∧ Hp [] [] S' [(i2, .cells [(.int .i64 a1.Kind), (.str a1.Attr), (.str a1.Value), (encSl eS a1.Subs), (encSl e_Api_Filter a1.Kids)]), (i1, .cells [(.int .i64 a0.Kind), (.str a0.Attr), (.str a0.Value), (encSl eS a0.Subs), (encSl e_Api_Filter a0.Kids)])] [] [] ∧ e' = false) ?_ ?_
  ·revert H
   cases hc3 : (a0.Kind == a1.Kind)
   ·intro H
    refine WO.by rfl rfl rfl ?_
    refine WO.by rfl rfl rfl ?_
    refine WO.by rfl rfl rfl ?_
    refine WO.by rfl rfl rfl ?_
    refine WO.by rfl rfl rfl ?_
    refine WS (v := .bool false) rfl (nz rfl rfl) ?_
    refine WO.nil ?_
    exact ⟨(kc rfl (kc rfl (kc rfl known_nil))), H, rfl⟩
   ·intro H
    refine WO.go0 rfl rfl ?_
    refine WS (v := .ptr i1 1) rfl (nz rfl rfl) ?_
    refine WO.go0 rfl rfl ?_
    refine WS (v := .str a0.Attr) rfl (nz rfl (stp_load rfl (H.get 1 rfl) rfl)) ?_
    refine WO.go0 rfl rfl ?_
    refine WS (v := .ptr i2 1) rfl (nz rfl rfl) ?_
    refine WO.go0 rfl rfl ?_
    refine WS (v := .str a1.Attr) rfl (nz rfl (stp_load rfl (H.get 0 rfl) rfl)) ?_
    refine WO.go0 rfl rfl ?_
    refine WS (v := (.bool (a0.Attr == a1.Attr))) rfl (nz rfl rfl) ?_
    refine WS (v := (.bool (a0.Attr == a1.Attr))) rfl (nz rfl rfl) ?_
    refine WO.nil ?_
    exact ⟨(kc rfl (kc rfl (kc rfl known_nil))), H, rfl⟩
  ·rintro σ S e ⟨hk, H, rfl⟩
   refine WO.of_known hk ?_
   refine WS (v := (.bool ((a0.Kind == a1.Kind) && (a0.Attr == a1.Attr)))) rfl (nz rfl rfl) ?_
   refine WO.split 6 (fun σ' S' e' => Known ([(2, (.ptr i1 0)), (3, (.ptr i2 0)), (23, (.bool (((a0.Kind == a1.Kind) && (a0.Attr == a1.Attr)) && (a0.Value == a1.Value))))]) σ' ∧ Hp [] [] S' [(i2, .cells [(.int .i64 a1.Kind), (.str a1.Attr), (.str a1.Value), (encSl eS a1.Subs), (encSl e_Api_Filter a1.Kids)]), (i1, .cells [(.int .i64 a0.Kind), (.str a0.Attr), (.str a0.Value), (encSl eS a0.Subs), (encSl e_Api_Filter a0.Kids)])] [] [] ∧ e' = false) ?_ ?_
   ·revert H
    cases hc4 : ((a0.Kind == a1.Kind) && (a0.Attr == a1.Attr))
    ·intro H
     refine WO.by rfl rfl rfl ?_
     refine WO.by rfl rfl rfl ?_
     refine WO.by rfl rfl rfl ?_
     refine WO.by rfl rfl rfl ?_
     refine WO.by rfl rfl rfl ?_
     refine WS (v := .bool false) rfl (nz rfl rfl) ?_
     refine WO.nil ?_
     exact ⟨(kc rfl (kc rfl (kc rfl known_nil))), H, rfl⟩
    ·intro H
     refine WO.go0 rfl rfl ?_
     refine WS (v := .ptr i1 2) rfl (nz rfl rfl) ?_
     refine WO.go0 rfl rfl ?_
     refine WS (v := .str a0.Value) rfl (nz rfl (stp_load rfl (H.get 1 rfl) rfl)) ?_
     refine WO.go0 rfl rfl ?_
     refine WS (v := .ptr i2 2) rfl (nz rfl rfl) ?_
     refine WO.go0 rfl rfl ?_
     refine WS (v := .str a1.Value) rfl (nz rfl (stp_load rfl (H.get 0 rfl) rfl)) ?_
     refine WO.go0 rfl rfl ?_
     refine WS (v := (.bool (a0.Value == a1.Value))) rfl (nz rfl rfl) ?_
     refine WS (v := (.bool (a0.Value == a1.Value))) rfl (nz rfl rfl) ?_
     refine WO.nil ?_
     exact ⟨(kc rfl (kc rfl (kc rfl known_nil))), H, rfl⟩
   ·rintro σ S e ⟨hk, H, rfl⟩
    refine WO.of_known hk ?_
    refine WS (v := (.bool (((a0.Kind == a1.Kind) && (a0.Attr == a1.Attr)) && (a0.Value == a1.Value)))) rfl (nz rfl rfl) ?_
    obtain ⟨y9, hy9, hOy9⟩ := bindS h
    refine WO.split 6 (fun σ' S' e' => Known ([(2, (.ptr i1 0)), (3, (.ptr i2 0)), (30, (.bool y9))]) σ' ∧ Hp [] [] S' [(i2, .cells [(.int .i64 a1.Kind), (.str a1.Attr), (.str a1.Value), (encSl eS a1.Subs), (encSl e_Api_Filter a1.Kids)]), (i1, .cells [(.int .i64 a0.Kind), (.str a0.Attr), (.str a0.Value), (encSl eS a0.Subs), (encSl e_Api_Filter a0.Kids)])] [] [] ∧ e' = false) ?_ ?_
    ·replace h := hy9
     revert H
     cases hc11 : (((a0.Kind == a1.Kind) && (a0.Attr == a1.Attr)) && (a0.Value == a1.Value))
     ·intro H
      replace h := iteF h hc11
      refine WO.by rfl rfl rfl ?_
      refine WO.by rfl rfl rfl ?_
      refine WO.by rfl rfl rfl ?_
      refine WO.by rfl rfl rfl ?_
      refine WO.by rfl rfl rfl ?_
      refine WS (v := .bool false) rfl (nz rfl rfl) ?_
      refine WO.nil ?_
      obtain rfl := Option.some.inj h
      exact ⟨(kc rfl (kc rfl (kc rfl known_nil))), (H.sub (.cons_cons _ (.cons_cons _ .slnil)) .slnil .slnil), rfl⟩
     ·intro H
      replace h := iteT h hc11
      refine WO.go0 rfl rfl ?_
      refine WS (v := .ptr i1 3) rfl (nz rfl rfl) ?_
      refine WO.go0 rfl rfl ?_
      refine WS (v := (encSl eS a0.Subs)) rfl (nz rfl (stp_load rfl (H.get 1 rfl) rfl)) ?_
      refine WO.go0 rfl rfl ?_
      refine WS (v := .ptr i2 3) rfl (nz rfl rfl) ?_
      refine WO.go0 rfl rfl ?_
      refine WS (v := (encSl eS a1.Subs)) rfl (nz rfl (stp_load rfl (H.get 0 rfl) rfl)) ?_
      refine WO.go0 rfl rfl ?_
      obtain ⟨y10, hy10, h⟩ := bindS h
      refine WS (v := .bool y10) rfl (nz (fz_tmp' (isSl_enc _ _).frz (fz_tmp' (isSl_enc _ _).frz rfl)) (stp_call (vs := [(encSl eS a0.Subs), (encSl eS a1.Subs)]) rfl rfl (s26 _ hy10 (by simp only [strip_enc, List.map_cons, List.map_nil, tupled]) _))) ?_
      refine WS (v := .bool y10) rfl (nz rfl rfl) ?_
      refine WO.nil ?_
      obtain rfl := Option.some.inj h
      exact ⟨(kc rfl (kc rfl (kc rfl known_nil))), (H.sub (.cons_cons _ (.cons_cons _ .slnil)) .slnil .slnil), rfl⟩
    ·rintro σ S e ⟨hk, H, rfl⟩
     replace h := hOy9
     refine WO.of_known hk ?_
     refine WS (v := .bool y9) rfl (nz rfl rfl) ?_
     obtain ⟨y16, hy16, hOy16⟩ := bindS h
     refine WO.split 6 (fun σ' S' e' => Known ([(37, (.bool y16))]) σ' ∧ Hp [] [] S' [(i2, .cells [(.int .i64 a1.Kind), (.str a1.Attr), (.str a1.Value), (encSl eS a1.Subs), (encSl e_Api_Filter a1.Kids)]), (i1, .cells [(.int .i64 a0.Kind), (.str a0.Attr), (.str a0.Value), (encSl eS a0.Subs), (encSl e_Api_Filter a0.Kids)])] [] [] ∧ e' = false) ?_ ?_
     ·replace h := hy16
      revert H
      cases hc18 : y9
      ·intro H
       replace h := iteF h hc18
       refine WO.by rfl rfl rfl ?_
       refine WO.by rfl rfl rfl ?_
       refine WO.by rfl rfl rfl ?_
       refine WO.by rfl rfl rfl ?_
       refine WO.by rfl rfl rfl ?_
       refine WS (v := .bool false) rfl (nz rfl rfl) ?_
       refine WO.nil ?_
       obtain rfl := Option.some.inj h
       exact ⟨(kc rfl known_nil), (H.sub (.cons_cons _ (.cons_cons _ .slnil)) .slnil .slnil), rfl⟩
      ·intro H
       replace h := iteT h hc18
       refine WO.go0 rfl rfl ?_
       refine WS (v := .ptr i1 4) rfl (nz rfl rfl) ?_
       refine WO.go0 rfl rfl ?_
       refine WS (v := (encSl e_Api_Filter a0.Kids)) rfl (nz rfl (stp_load rfl (H.get 1 rfl) rfl)) ?_
       refine WO.go0 rfl rfl ?_
       refine WS (v := .ptr i2 4) rfl (nz rfl rfl) ?_
       refine WO.go0 rfl rfl ?_
       refine WS (v := (encSl e_Api_Filter a1.Kids)) rfl (nz rfl (stp_load rfl (H.get 0 rfl) rfl)) ?_
       refine WO.go0 rfl rfl ?_
       obtain ⟨y17, hy17, h⟩ := bindS h
       refine WS (v := .bool y17) rfl (nz (fz_tmp' (isSl_enc _ _).frz (fz_tmp' (isSl_enc _ _).frz (fz_oth' (fun _ h => by cases h) rfl))) (stp_call (vs := [(encSl e_Api_Filter a0.Kids), (encSl e_Api_Filter a1.Kids), (.fn (.func 16) [] [])]) rfl rfl (s27_16 ih _ hy17 (by simp only [strip_enc, st_fn, List.map_cons, List.map_nil, tupled]) _))) ?_
       refine WS (v := .bool y17) rfl (nz rfl rfl) ?_
       refine WO.nil ?_
       obtain rfl := Option.some.inj h
       exact ⟨(kc rfl known_nil), (H.sub (.cons_cons _ (.cons_cons _ .slnil)) .slnil .slnil), rfl⟩
     ·rintro σ S e ⟨hk, H, rfl⟩
      replace h := hOy16
      refine WO.of_known hk ?_
      refine WS (v := .bool y16) rfl (nz rfl rfl) ?_
      refine WO.nil ?_
      refine WC.ret ?_
      obtain rfl := Option.some.inj h
      refine KB.ret (vs := [(.bool y16)]) (res_tmp rfl res_nil) (fl_cons' rfl rfl) ?_
      exact rfl
def F40 (k : Nat) (a0 : Filter_reader) : Option Int :=
 Option.bind (if a0.fails then
 some true
 else
 some (decide (a0.at_ ≥ (Str.len a0.s_)))) fun y2 =>
 if y2 then
 some 0
 else
 Option.bind (Str.at? a0.s_ a0.at_) fun c5 =>
 some c5
theorem s40 : ∀ k : Nat, ∀ {a0 : Filter_reader} {r : Int}, F40 k a0 = some r → ∀ {id : Nat} {S : List SObj}, S[id]? = some (.cells [(.str a0.s_), (.int .i64 a0.at_), (.int .i64 a0.left), (.bool a0.fails)]) → evw env 40 [.ptr id 0] S = some ((.int .u8 r), S, false) := by
 intro k a0 r h id S0 hS
 unfold F40 at h
 refine evw_recvW (pf := fn40) rfl rfl (Nat.le_of_ble_eq_true rfl) rfl ?_
 refine WB.of (pf := fn40) rfl ?_
 have H := Hp.start1 hS rfl
 refine WC.seqR ?_
 refine WS (v := .int .u8 0) rfl (nz rfl rfl) ?_
 refine WO.nil ?_
 refine WC.seq ?_
 refine WC.seq ?_
 refine WC.draw ?_
 refine WH.step (v := .ptr id 0) rfl (nz rfl rfl) rfl rfl ?_
 refine WH.step (v := .ptr id 0) rfl (nz rfl rfl) rfl rfl ?_
 refine WH.step (v := .ptr id 3) rfl (nz rfl rfl) rfl rfl ?_
 refine WH.step (v := .bool a0.fails) rfl (nz rfl (stp_load rfl (H.get 0 rfl) rfl)) rfl rfl ?_
 refine WH.step (v := .bool a0.fails) rfl (nz rfl rfl) rfl rfl ?_
 obtain ⟨y2, hy2, hOy2⟩ := bindS h
 refine WD.split 2 (fun σ' S' e' => Known ([(0, (.ptr id 0)), (18, (.bool y2))]) σ' ∧ Hp S0 [id] S' [(id, .cells [(.str a0.s_), (.int .i64 a0.at_), (.int .i64 a0.left), (.bool a0.fails)])] [] [] ∧ e' = false) ?_ ?_
 ·replace h := hy2
  revert H
  cases hc3 : a0.fails
  ·intro H
   replace h := iteF h hc3
   refine WH.go0 rfl rfl ?_
   refine WH.step (v := .ptr id 0) rfl (nz rfl rfl) rfl rfl ?_
   refine WH.go0 rfl rfl ?_
   refine WH.step (v := .ptr id 0) rfl (nz rfl rfl) rfl rfl ?_
   refine WH.go0 rfl rfl ?_
   refine WH.step (v := .ptr id 1) rfl (nz rfl rfl) rfl rfl ?_
   refine WH.go0 rfl rfl ?_
   refine WH.step (v := .int .i64 a0.at_) rfl (nz rfl (stp_load rfl (H.get 0 rfl) rfl)) rfl rfl ?_
   refine WH.go0 rfl rfl ?_
   refine WH.step (v := .ptr id 0) rfl (nz rfl rfl) rfl rfl ?_
   refine WH.go0 rfl rfl ?_
   refine WH.step (v := .ptr id 0) rfl (nz rfl rfl) rfl rfl ?_
   refine WH.go0 rfl rfl ?_
   refine WH.step (v := .ptr id 0) rfl (nz rfl rfl) rfl rfl ?_
   refine WH.go0 rfl rfl ?_
   refine WH.step (v := .str a0.s_) rfl (nz rfl (stp_load rfl (H.get 0 rfl) rfl)) rfl rfl ?_
   refine WH.go0 rfl rfl ?_
   refine WH.step (v := (.int .i64 (Str.len a0.s_))) rfl (nz rfl rfl) rfl rfl ?_
   refine WH.nil ?_
   refine WO.go0 rfl rfl ?_
   refine WS (v := (.bool (decide (a0.at_ ≥ (Str.len a0.s_))))) rfl (nz rfl rfl) ?_
   refine WS (v := (.bool (decide (a0.at_ ≥ (Str.len a0.s_))))) rfl (nz rfl rfl) ?_
   refine WO.nil ?_
   obtain rfl := Option.some.inj h
   exact ⟨(kc rfl (kc rfl known_nil)), (H.sub (.cons_cons _ .slnil) .slnil .slnil), rfl⟩
  ·intro H
   replace h := iteT h hc3
   refine WH.by rfl rfl rfl ?_
   refine WH.by rfl rfl rfl ?_
   refine WH.by rfl rfl rfl ?_
   refine WH.by rfl rfl rfl ?_
   refine WH.by rfl rfl rfl ?_
   refine WH.by rfl rfl rfl ?_
   refine WH.by rfl rfl rfl ?_
   refine WH.by rfl rfl rfl ?_
   refine WH.by rfl rfl rfl ?_
   refine WH.nil ?_
   refine WO.by rfl rfl rfl ?_
   refine WS (v := .bool true) rfl (nz rfl rfl) ?_
   refine WO.nil ?_
   obtain rfl := Option.some.inj h
   exact ⟨(kc rfl (kc rfl known_nil)), (H.sub (.cons_cons _ .slnil) .slnil .slnil), rfl⟩
 ·rintro σ S e ⟨hk, H, rfl⟩
  replace h := hOy2
  refine WO.of_known hk ?_
  refine WO.nil ?_
  refine KX.seq_n ?_
  rcases iteS h with ⟨hc6, h⟩ | ⟨hc6, h⟩
  ·refine WC.condT rfl hc6 ?_
   refine WC.seqR ?_
   refine WS (v := .int .u8 0) rfl (nz rfl rfl) ?_
   refine WO.nil ?_
   refine WC.ret ?_
   refine KX.seq_r ?_
   obtain rfl := Option.some.inj h
   refine KB.ret (vs := [(.int .u8 0)]) (res_tmp rfl res_nil) (fl_cons' rfl rfl) ?_
   exact leave_ro hS H 0 rfl rfl rfl
  ·refine WC.condF rfl hc6 ?_
   refine WC.skip ?_
   refine KX.seq_n ?_
   refine WC.seq ?_
   refine WC.draw ?_
   refine WH.step (v := .ptr id 0) rfl (nz rfl rfl) rfl rfl ?_
   refine WH.step (v := .ptr id 0) rfl (nz rfl rfl) rfl rfl ?_
   refine WH.step (v := .ptr id 0) rfl (nz rfl rfl) rfl rfl ?_
   refine WH.step (v := .str a0.s_) rfl (nz rfl (stp_load rfl (H.get 0 rfl) rfl)) rfl rfl ?_
   refine WH.step (v := .ptr id 0) rfl (nz rfl rfl) rfl rfl ?_
   refine WH.step (v := .ptr id 0) rfl (nz rfl rfl) rfl rfl ?_
   refine WH.step (v := .ptr id 1) rfl (nz rfl rfl) rfl rfl ?_
   refine WH.step (v := .int .i64 a0.at_) rfl (nz rfl (stp_load rfl (H.get 0 rfl) rfl)) rfl rfl ?_
   refine WH.nil ?_
   obtain ⟨c5, hc5, h⟩ := bindS h
   refine WS (v := .int .u8 c5) rfl (nz rfl (stp_idxStr rfl rfl rfl hc5)) ?_
   refine WS (v := .int .u8 c5) rfl (nz rfl rfl) ?_
   refine WO.nil ?_
   refine KX.seq_n ?_
   refine WC.ret ?_
   obtain rfl := Option.some.inj h
   refine KB.ret (vs := [(.int .u8 c5)]) (res_tmp rfl res_nil) (fl_cons' rfl rfl) ?_
   exact leave_ro hS H 0 rfl rfl rfl
def F39 (k : Nat) (a0 : Filter_reader) (a1 : Int) : Option Filter_reader :=
 Option.bind (Option.bind (F40 k a0 ) fun y4 =>
 if y4 != a1 then
 some true
 else
 some (decide (a0.at_ ≥ (Str.len a0.s_)))) fun y3 =>
 if y3 then
 some (Filter_reader.mk a0.s_ a0.at_ a0.left true)
 else
 some (Filter_reader.mk a0.s_ (ad .i64 a0.at_ 1) a0.left a0.fails)
theorem s39 : ∀ k : Nat, ∀ {a0 : Filter_reader} {a1 : Int} {r : Filter_reader}, F39 k a0 a1 = some r → ∀ {id : Nat} {S : List SObj}, S[id]? = some (.cells [(.str a0.s_), (.int .i64 a0.at_), (.int .i64 a0.left), (.bool a0.fails)]) → evw env 39 [.ptr id 0, (.int .u8 a1)] S = some ((.tup []), S.set id (.cells [(.str r.s_), (.int .i64 r.at_), (.int .i64 r.left), (.bool r.fails)]), false) := by
 intro k a0 a1 r h id S0 hS
 unfold F39 at h
 refine evw_recvW (pf := fn39) rfl rfl (Nat.le_of_ble_eq_true rfl) rfl ?_
 refine WB.of (pf := fn39) rfl ?_
 have H := Hp.start1 hS rfl
 refine WC.seq ?_
 refine WC.seq ?_
 obtain ⟨y3, hy3, hOy3⟩ := bindS h
 refine WC.drawJ (fun σ' S' e' => Known ([(0, (.ptr id 0)), (19, (.bool y3))]) σ' ∧ Hp S0 [id] S' [(id, .cells [(.str a0.s_), (.int .i64 a0.at_), (.int .i64 a0.left), (.bool a0.fails)])] [] [] ∧ e' = false) ?_ ?_
 ·replace h := hy3
  refine WK.step (v := .ptr id 0) rfl (nz rfl rfl) rfl rfl rfl rfl ?_
  obtain ⟨y4, hy4, h⟩ := bindS h
  refine WK.callP (v := .int .u8 y4) rfl (nz rfl (stp_call (vs := [(.ptr id 0)]) rfl rfl (s40 _ hy4 (H.get 0 rfl)))) rfl ?_
  refine WK.step (v := .int .u8 a1) rfl (nz rfl rfl) rfl rfl rfl rfl ?_
  refine WK.step (v := (.bool (y4 != a1))) rfl (nz rfl rfl) rfl rfl rfl rfl ?_
  refine WK.step (v := (.bool (y4 != a1))) rfl (nz rfl rfl) rfl rfl rfl rfl ?_
  revert H
  cases hc5 : (y4 != a1)
  ·intro H
   replace h := iteF h hc5
   refine WK.go0 rfl rfl ?_
   refine WK.step (v := .ptr id 0) rfl (nz rfl rfl) rfl rfl rfl rfl ?_
   refine WK.go0 rfl rfl ?_
   refine WK.step (v := .ptr id 0) rfl (nz rfl rfl) rfl rfl rfl rfl ?_
   refine WK.go0 rfl rfl ?_
   refine WK.step (v := .ptr id 1) rfl (nz rfl rfl) rfl rfl rfl rfl ?_
   refine WK.go0 rfl rfl ?_
   refine WK.load rfl rfl (ld (H.get 0 rfl) rfl) hist_nil ?_
   refine WK.go0 rfl rfl ?_
   refine WK.step (v := .ptr id 0) rfl (nz rfl rfl) rfl rfl rfl rfl ?_
   refine WK.go0 rfl rfl ?_
   refine WK.step (v := .ptr id 0) rfl (nz rfl rfl) rfl rfl rfl rfl ?_
   refine WK.go0 rfl rfl ?_
   refine WK.step (v := .ptr id 0) rfl (nz rfl rfl) rfl rfl rfl rfl ?_
   refine WK.go0 rfl rfl ?_
   refine WK.load rfl rfl (ld (H.get 0 rfl) rfl) hist_nil ?_
   refine WK.go0 rfl rfl ?_
   refine WK.step (v := (.int .i64 (Str.len a0.s_))) rfl (nz rfl rfl) rfl rfl rfl rfl ?_
   refine WK.nil ?_
   refine WO.go0 rfl rfl ?_
   refine WS (v := (.bool (decide (a0.at_ ≥ (Str.len a0.s_))))) rfl (nz rfl rfl) ?_
   refine WS (v := (.bool (decide (a0.at_ ≥ (Str.len a0.s_))))) rfl (nz rfl rfl) ?_
   refine WO.nil ?_
   obtain rfl := Option.some.inj h
   exact ⟨(kc rfl (kc rfl known_nil)), (H.sub (.cons_cons _ .slnil) .slnil .slnil), rfl⟩
  ·intro H
   replace h := iteT h hc5
   refine WK.by rfl rfl rfl ?_
   refine WK.by rfl rfl rfl ?_
   refine WK.by rfl rfl rfl ?_
   refine WK.by rfl rfl rfl ?_
   refine WK.by rfl rfl rfl ?_
   refine WK.by rfl rfl rfl ?_
   refine WK.by rfl rfl rfl ?_
   refine WK.by rfl rfl rfl ?_
   refine WK.by rfl rfl rfl ?_
   refine WK.nil ?_
   refine WO.by rfl rfl rfl ?_
   refine WS (v := .bool true) rfl (nz rfl rfl) ?_
   refine WO.nil ?_
   obtain rfl := Option.some.inj h
   exact ⟨(kc rfl (kc rfl known_nil)), (H.sub (.cons_cons _ .slnil) .slnil .slnil), rfl⟩
 ·rintro σ S e ⟨hk, H, rfl⟩
  replace h := hOy3
  refine KX.of_known hk ?_
  refine KX.seq_n ?_
  rcases iteS h with ⟨hc7, h⟩ | ⟨hc7, h⟩
  ·refine WC.condT rfl hc7 ?_
   refine WC.seqR ?_
   refine WS (v := .ptr id 0) rfl (nz rfl rfl) ?_
   refine WS (v := .ptr id 0) rfl (nz rfl rfl) ?_
   refine WS (v := .ptr id 3) rfl (nz rfl rfl) ?_
   refine WO.store 0 rfl rfl H rfl rfl rfl rfl rfl rfl rfl (Nat.le_of_ble_eq_true rfl) rfl (clean_e rfl) ?_
   intro S H
   replace H : Hp S0 [id] _ [(id, .cells [(.str a0.s_), (.int .i64 a0.at_), (.int .i64 a0.left), (.bool true)])] [] [] := H
   refine WO.nil ?_
   refine WC.ret ?_
   refine KX.seq_r ?_
   obtain rfl := Option.some.inj h
   refine KB.ret (vs := []) res_nil rfl ?_
   exact leave_hp hS H 0 rfl rfl rfl
  ·refine WC.condF rfl hc7 ?_
   refine WC.skip ?_
   refine KX.seq_n ?_
   refine WC.region ?_
   refine WS (v := .ptr id 0) rfl (nz rfl rfl) ?_
   refine WS (v := .ptr id 0) rfl (nz rfl rfl) ?_
   refine WS (v := .ptr id 1) rfl (nz rfl rfl) ?_
   refine WS (v := .int .i64 a0.at_) rfl (nz rfl (stp_load rfl (H.get 0 rfl) rfl)) ?_
   refine WS (v := (.int .i64 (ad .i64 a0.at_ 1))) rfl (nz rfl rfl) ?_
   refine WS (v := .ptr id 0) rfl (nz rfl rfl) ?_
   refine WS (v := .ptr id 1) rfl (nz rfl rfl) ?_
   refine WO.store 0 rfl rfl H rfl rfl rfl rfl rfl rfl rfl (Nat.le_of_ble_eq_true rfl) rfl (clean_e rfl) ?_
   intro S H
   replace H : Hp S0 [id] _ [(id, .cells [(.str a0.s_), (.int .i64 (ad .i64 a0.at_ 1)), (.int .i64 a0.left), (.bool a0.fails)])] [] [] := H
   refine WO.nil ?_
   obtain rfl := Option.some.inj h
   refine KB.normal (vs := []) res_nil rfl ?_
   exact leave_hp hS H 0 rfl rfl rfl
def F46_L0 (k : Nat) : Nat → (Sl Int) → Filter_reader → Option ((Sl Int) × Filter_reader)
 | 0, _, _ => none
 | n + 1, x150, b152 =>
  if !b152.fails then
  Option.bind (F40 k b152 ) fun y182 =>
  if (((decide (b152.at_ ≥ (Str.len b152.s_))) || (y182 == 42)) || (y182 == 40)) || (y182 == 41) then
  some (x150, b152)
  else
  Option.bind (if y182 == 92 then
  Option.bind (F40 k (Filter_reader.mk b152.s_ (ad .i64 b152.at_ 1) b152.left b152.fails) ) fun y200 =>
  Option.bind (F40 k (Filter_reader.mk b152.s_ (ad .i64 (ad .i64 b152.at_ 1) 1) b152.left b152.fails) ) fun y201 =>
  Option.bind (shl? .i64 (imax (Lib.indexByte [48, 49, 50, 51, 52, 53, 54, 55, 56, 57, 97, 98, 99, 100, 101, 102] (Int.toNat y200).toUInt8) 0) 4) fun z204 =>
  some (cv .u8 (bOr .i64 z204 (imax (Lib.indexByte [48, 49, 50, 51, 52, 53, 54, 55, 56, 57, 97, 98, 99, 100, 101, 102] (Int.toNat y201).toUInt8) 0)), (Filter_reader.mk b152.s_ (ad .i64 (ad .i64 (ad .i64 b152.at_ 1) 1) 1) b152.left ((b152.fails || (decide ((Lib.indexByte [48, 49, 50, 51, 52, 53, 54, 55, 56, 57, 97, 98, 99, 100, 101, 102] (Int.toNat y200).toUInt8) < 0))) || (decide ((Lib.indexByte [48, 49, 50, 51, 52, 53, 54, 55, 56, 57, 97, 98, 99, 100, 101, 102] (Int.toNat y201).toUInt8) < 0)))))
  else
  some (y182, (Filter_reader.mk b152.s_ (ad .i64 b152.at_ 1) b152.left b152.fails))) fun y199 =>
  Option.bind (Sl.app? 1 x150 (Sl.l (some [y199.1]))) fun z207 =>
  F46_L0 k n z207 y199.2
  else
  some (x150, b152)
def F46 (k : Nat) (a0 : Filter_reader) : Option (Filter_reader × Str) :=
 Option.bind (F46_L0 k k none a0) fun y212 =>
 some (y212.2, Str.of y212.1)
theorem l46_L0 {k : Nat} {S0 : List SObj} {R : List Nat} {K : KX} {id : Nat}  {o : ((Sl Int) × Filter_reader)}
  (hbrk : ∀ {σ' : Nat → PV} {S' : List SObj}, ∀ (v211 : PV) (_ : IsSl (eI .u8) o.1 v211), Known [(3, v211)] σ' → Hp S0 R S' [(id, .cells [(.str o.2.s_), (.int .i64 o.2.at_), (.int .i64 o.2.left), (.bool o.2.fails)])] [(v211, 1)] [] → K (.exit 0) σ' S' false) :
  ∀ {n : Nat} {x150 : Sl Int} {b152 : Filter_reader}, F46_L0 k n x150 b152 = some o → ∀ {σ : Nat → PV} {S : List SObj}, ∀ (v151 : PV) (_ : IsSl (eI .u8) x150 v151), Known [(0, (.ptr id 0)), (3, v151)] σ → Hp S0 R S [(id, .cells [(.str b152.s_), (.int .i64 b152.at_), (.int .i64 b152.left), (.bool b152.fails)])] [(v151, 1)] [] → WC env ⟨93, S0.length⟩ (.loop pc46L0) σ S false K := by
 intro n
 induction n with
 | zero => intro _ _ h; cases h
 | succ n ih =>
  intro x150 b152 h σ S v151 hv151 hk H
  rw [F46_L0] at h
  refine WC.loop ?_
  refine WC.of_known hk ?_
  refine WC.seq ?_
  refine WC.seqR ?_
  refine WS (v := .ptr id 0) rfl (nz rfl rfl) ?_
  refine WS (v := .ptr id 0) rfl (nz rfl rfl) ?_
  refine WS (v := .ptr id 3) rfl (nz rfl rfl) ?_
  refine WS (v := .bool b152.fails) rfl (nz rfl (stp_load rfl (H.get 0 rfl) rfl)) ?_
  refine WS (v := (.bool (!b152.fails))) rfl (nz rfl rfl) ?_
  refine WO.nil ?_
  rcases iteS h with ⟨hc210, h⟩ | ⟨hc210, h⟩
  ·refine WC.condT rfl hc210 ?_
   refine WC.skip ?_
   refine KX.seq_n ?_
   refine WC.block ?_
   refine WC.seqR ?_
   refine WS (v := .ptr id 0) rfl (nz rfl rfl) ?_
   obtain ⟨y182, hy182, h⟩ := bindS h
   refine WS (v := .int .u8 y182) rfl (nz rfl (stp_call (vs := [(.ptr id 0)]) rfl rfl (s40 _ hy182 (H.get 0 rfl)))) ?_
   refine WS (v := .int .u8 y182) rfl (nz rfl rfl) ?_
   refine WO.nil ?_
   refine WC.seq ?_
   refine WC.seq ?_
   refine WC.draw ?_
   refine WH.step (v := .ptr id 0) rfl (nz rfl rfl) rfl rfl ?_
   refine WH.step (v := .ptr id 0) rfl (nz rfl rfl) rfl rfl ?_
   refine WH.step (v := .ptr id 1) rfl (nz rfl rfl) rfl rfl ?_
   refine WH.step (v := .int .i64 b152.at_) rfl (nz rfl (stp_load rfl (H.get 0 rfl) rfl)) rfl rfl ?_
   refine WH.step (v := .ptr id 0) rfl (nz rfl rfl) rfl rfl ?_
   refine WH.step (v := .ptr id 0) rfl (nz rfl rfl) rfl rfl ?_
   refine WH.step (v := .ptr id 0) rfl (nz rfl rfl) rfl rfl ?_
   refine WH.step (v := .str b152.s_) rfl (nz rfl (stp_load rfl (H.get 0 rfl) rfl)) rfl rfl ?_
   refine WH.step (v := (.int .i64 (Str.len b152.s_))) rfl (nz rfl rfl) rfl rfl ?_
   refine WH.nil ?_
   refine WS (v := (.bool (decide (b152.at_ ≥ (Str.len b152.s_))))) rfl (nz rfl rfl) ?_
   refine WS (v := (.bool (decide (b152.at_ ≥ (Str.len b152.s_))))) rfl (nz rfl rfl) ?_
   refine WO.split 3 (fun σ' S' e' => Known ([(0, (.ptr id 0)), (3, v151), (4, (.int .u8 y182)), (27, (.bool ((decide (b152.at_ ≥ (Str.len b152.s_))) || (y182 == 42))))]) σ' ∧ Hp S0 R S' [(id, .cells [(.str b152.s_), (.int .i64 b152.at_), (.int .i64 b152.left), (.bool b152.fails)])] [(v151, 1)] [] ∧ e' = false) ?_ ?_
   ·revert H
    cases hc183 : (decide (b152.at_ ≥ (Str.len b152.s_)))
    ·intro H
     refine WO.go0 rfl rfl ?_
     refine WS (v := .int .u8 y182) rfl (nz rfl rfl) ?_
     refine WO.go0 rfl rfl ?_
     refine WS (v := (.bool (y182 == 42))) rfl (nz rfl rfl) ?_
     refine WS (v := (.bool (y182 == 42))) rfl (nz rfl rfl) ?_
     refine WO.nil ?_
     exact ⟨(kc rfl (kc rfl (kc rfl (kc rfl known_nil)))), H, rfl⟩
    ·intro H
     refine WO.by rfl rfl rfl ?_
     refine WO.by rfl rfl rfl ?_
     refine WS (v := .bool true) rfl (nz rfl rfl) ?_
     refine WO.nil ?_
     exact ⟨(kc rfl (kc rfl (kc rfl (kc rfl known_nil)))), H, rfl⟩
   ·rintro σ S e ⟨hk, H, rfl⟩
    refine WO.of_known hk ?_
    refine WS (v := (.bool ((decide (b152.at_ ≥ (Str.len b152.s_))) || (y182 == 42)))) rfl (nz rfl rfl) ?_
    refine WO.split 3 (fun σ' S' e' => Known ([(0, (.ptr id 0)), (3, v151), (4, (.int .u8 y182)), (31, (.bool (((decide (b152.at_ ≥ (Str.len b152.s_))) || (y182 == 42)) || (y182 == 40))))]) σ' ∧ Hp S0 R S' [(id, .cells [(.str b152.s_), (.int .i64 b152.at_), (.int .i64 b152.left), (.bool b152.fails)])] [(v151, 1)] [] ∧ e' = false) ?_ ?_
    ·revert H
     cases hc184 : ((decide (b152.at_ ≥ (Str.len b152.s_))) || (y182 == 42))
     ·intro H
      refine WO.go0 rfl rfl ?_
      refine WS (v := .int .u8 y182) rfl (nz rfl rfl) ?_
      refine WO.go0 rfl rfl ?_
      refine WS (v := (.bool (y182 == 40))) rfl (nz rfl rfl) ?_
      refine WS (v := (.bool (y182 == 40))) rfl (nz rfl rfl) ?_
      refine WO.nil ?_
      exact ⟨(kc rfl (kc rfl (kc rfl (kc rfl known_nil)))), H, rfl⟩
     ·intro H
      refine WO.by rfl rfl rfl ?_
      refine WO.by rfl rfl rfl ?_
      refine WS (v := .bool true) rfl (nz rfl rfl) ?_
      refine WO.nil ?_
      exact ⟨(kc rfl (kc rfl (kc rfl (kc rfl known_nil)))), H, rfl⟩
    ·rintro σ S e ⟨hk, H, rfl⟩
     refine WO.of_known hk ?_
     refine WS (v := (.bool (((decide (b152.at_ ≥ (Str.len b152.s_))) || (y182 == 42)) || (y182 == 40)))) rfl (nz rfl rfl) ?_
     refine WO.split 3 (fun σ' S' e' => Known ([(0, (.ptr id 0)), (3, v151), (4, (.int .u8 y182)), (35, (.bool ((((decide (b152.at_ ≥ (Str.len b152.s_))) || (y182 == 42)) || (y182 == 40)) || (y182 == 41))))]) σ' ∧ Hp S0 R S' [(id, .cells [(.str b152.s_), (.int .i64 b152.at_), (.int .i64 b152.left), (.bool b152.fails)])] [(v151, 1)] [] ∧ e' = false) ?_ ?_
     ·revert H
      cases hc185 : (((decide (b152.at_ ≥ (Str.len b152.s_))) || (y182 == 42)) || (y182 == 40))
      ·intro H
       refine WO.go0 rfl rfl ?_
       refine WS (v := .int .u8 y182) rfl (nz rfl rfl) ?_
       refine WO.go0 rfl rfl ?_
       refine WS (v := (.bool (y182 == 41))) rfl (nz rfl rfl) ?_
       refine WS (v := (.bool (y182 == 41))) rfl (nz rfl rfl) ?_
       refine WO.nil ?_
       exact ⟨(kc rfl (kc rfl (kc rfl (kc rfl known_nil)))), H, rfl⟩
      ·intro H
       refine WO.by rfl rfl rfl ?_
       refine WO.by rfl rfl rfl ?_
       refine WS (v := .bool true) rfl (nz rfl rfl) ?_
       refine WO.nil ?_
       exact ⟨(kc rfl (kc rfl (kc rfl (kc rfl known_nil)))), H, rfl⟩
     ·rintro σ S e ⟨hk, H, rfl⟩
      refine WO.of_known hk ?_
      refine WO.nil ?_
      refine KX.seq_n ?_
      rcases iteS h with ⟨hc209, h⟩ | ⟨hc209, h⟩
      ·refine WC.condT rfl hc209 ?_
       refine WC.exit ?_
       refine KX.seq_x ?_
       refine KX.block_y rfl ?_
       refine KX.seq_x ?_
       obtain rfl := Option.some.inj h
       exact hbrk v151 (hv151) (kc rfl known_nil) (H.sub (.cons_cons _ .slnil) (.cons_cons _ .slnil) .slnil)
      ·refine WC.condF rfl hc209 ?_
       refine WC.skip ?_
       refine KX.seq_n ?_
       refine WC.seqR ?_
       refine WS (v := .ptr id 0) rfl (nz rfl rfl) ?_
       refine WS (v := .ptr id 0) rfl (nz rfl rfl) ?_
       refine WS (v := .ptr id 1) rfl (nz rfl rfl) ?_
       refine WS (v := .int .i64 b152.at_) rfl (nz rfl (stp_load rfl (H.get 0 rfl) rfl)) ?_
       refine WS (v := (.int .i64 (ad .i64 b152.at_ 1))) rfl (nz rfl rfl) ?_
       refine WS (v := .ptr id 0) rfl (nz rfl rfl) ?_
       refine WS (v := .ptr id 1) rfl (nz rfl rfl) ?_
       refine WO.store 0 rfl rfl H rfl rfl rfl rfl rfl rfl rfl (Nat.le_of_ble_eq_true rfl) rfl (clean_e rfl) ?_
       intro S H
       replace H : Hp S0 R _ [(id, .cells [(.str b152.s_), (.int .i64 (ad .i64 b152.at_ 1)), (.int .i64 b152.left), (.bool b152.fails)])] [(v151, 1)] [] := H
       refine WO.nil ?_
       refine WC.seq ?_
       refine WC.seqR ?_
       refine WS (v := .int .u8 y182) rfl (nz rfl rfl) ?_
       refine WS (v := (.bool (y182 == 92))) rfl (nz rfl rfl) ?_
       refine WO.nil ?_
       obtain ⟨y199, hy199, hOy199⟩ := bindS h
       refine WC.join (fun σ' S' e' => Known ([(0, (.ptr id 0)), (3, v151), (4, (.int .u8 y199.1))]) σ' ∧ Hp S0 R S' [(id, .cells [(.str y199.2.s_), (.int .i64 y199.2.at_), (.int .i64 y199.2.left), (.bool y199.2.fails)])] [(v151, 1)] [] ∧ e' = false) ?_ ?_
       ·replace h := hy199
        rcases iteS h with ⟨hc205, h⟩ | ⟨hc205, h⟩
        ·refine WC.condT rfl hc205 ?_
         refine WC.seqR ?_
         refine WS (v := .ptr id 0) rfl (nz rfl rfl) ?_
         obtain ⟨y200, hy200, h⟩ := bindS h
         refine WS (v := .int .u8 y200) rfl (nz rfl (stp_call (vs := [(.ptr id 0)]) rfl rfl (s40 _ hy200 (H.get 0 rfl)))) ?_
         refine WS (v := (.int .i64 (Lib.indexByte [48, 49, 50, 51, 52, 53, 54, 55, 56, 57, 97, 98, 99, 100, 101, 102] (Int.toNat y200).toUInt8))) rfl (nz rfl (stp_call (vs := [(.str [48, 49, 50, 51, 52, 53, 54, 55, 56, 57, 97, 98, 99, 100, 101, 102]), (.int .u8 y200)]) rfl rfl (evw_idx rfl _))) ?_
         refine WS (v := (.int .i64 (Lib.indexByte [48, 49, 50, 51, 52, 53, 54, 55, 56, 57, 97, 98, 99, 100, 101, 102] (Int.toNat y200).toUInt8))) rfl (nz rfl rfl) ?_
         refine WS (v := .int .i64 0) rfl (nz rfl rfl) ?_
         refine WO.nil ?_
         refine WC.seqR ?_
         refine WS (v := .ptr id 0) rfl (nz rfl rfl) ?_
         refine WS (v := .ptr id 0) rfl (nz rfl rfl) ?_
         refine WS (v := .ptr id 1) rfl (nz rfl rfl) ?_
         refine WS (v := (.int .i64 (ad .i64 b152.at_ 1))) rfl (nz rfl (stp_load rfl (H.get 0 rfl) rfl)) ?_
         refine WS (v := (.int .i64 (ad .i64 (ad .i64 b152.at_ 1) 1))) rfl (nz rfl rfl) ?_
         refine WS (v := .ptr id 0) rfl (nz rfl rfl) ?_
         refine WS (v := .ptr id 1) rfl (nz rfl rfl) ?_
         refine WO.store 0 rfl rfl H rfl rfl rfl rfl rfl rfl rfl (Nat.le_of_ble_eq_true rfl) rfl (clean_e rfl) ?_
         intro S H
         replace H : Hp S0 R _ [(id, .cells [(.str b152.s_), (.int .i64 (ad .i64 (ad .i64 b152.at_ 1) 1)), (.int .i64 b152.left), (.bool b152.fails)])] [(v151, 1)] [] := H
         refine WO.nil ?_
         refine WC.seqR ?_
         refine WS (v := .ptr id 0) rfl (nz rfl rfl) ?_
         obtain ⟨y201, hy201, h⟩ := bindS h
         refine WS (v := .int .u8 y201) rfl (nz rfl (stp_call (vs := [(.ptr id 0)]) rfl rfl (s40 _ hy201 (H.get 0 rfl)))) ?_
         refine WS (v := (.int .i64 (Lib.indexByte [48, 49, 50, 51, 52, 53, 54, 55, 56, 57, 97, 98, 99, 100, 101, 102] (Int.toNat y201).toUInt8))) rfl (nz rfl (stp_call (vs := [(.str [48, 49, 50, 51, 52, 53, 54, 55, 56, 57, 97, 98, 99, 100, 101, 102]), (.int .u8 y201)]) rfl rfl (evw_idx rfl _))) ?_
         refine WS (v := (.int .i64 (Lib.indexByte [48, 49, 50, 51, 52, 53, 54, 55, 56, 57, 97, 98, 99, 100, 101, 102] (Int.toNat y201).toUInt8))) rfl (nz rfl rfl) ?_
         refine WO.nil ?_
         refine WC.seqR ?_
         refine WS (v := .ptr id 0) rfl (nz rfl rfl) ?_
         refine WS (v := .ptr id 0) rfl (nz rfl rfl) ?_
         refine WS (v := .ptr id 1) rfl (nz rfl rfl) ?_
         refine WS (v := (.int .i64 (ad .i64 (ad .i64 b152.at_ 1) 1))) rfl (nz rfl (stp_load rfl (H.get 0 rfl) rfl)) ?_
         refine WS (v := (.int .i64 (ad .i64 (ad .i64 (ad .i64 b152.at_ 1) 1) 1))) rfl (nz rfl rfl) ?_
         refine WS (v := .ptr id 0) rfl (nz rfl rfl) ?_
         refine WS (v := .ptr id 1) rfl (nz rfl rfl) ?_
         refine WO.store 0 rfl rfl H rfl rfl rfl rfl rfl rfl rfl (Nat.le_of_ble_eq_true rfl) rfl (clean_e rfl) ?_
         intro S H
         replace H : Hp S0 R _ [(id, .cells [(.str b152.s_), (.int .i64 (ad .i64 (ad .i64 (ad .i64 b152.at_ 1) 1) 1)), (.int .i64 b152.left), (.bool b152.fails)])] [(v151, 1)] [] := H
         refine WO.nil ?_
         refine WC.seqR ?_
         refine WS (v := .ptr id 0) rfl (nz rfl rfl) ?_
         refine WS (v := .ptr id 0) rfl (nz rfl rfl) ?_
         refine WS (v := .ptr id 0) rfl (nz rfl rfl) ?_
         refine WS (v := .ptr id 3) rfl (nz rfl rfl) ?_
         refine WS (v := .bool b152.fails) rfl (nz rfl (stp_load rfl (H.get 0 rfl) rfl)) ?_
         refine WS (v := .bool b152.fails) rfl (nz rfl rfl) ?_
         refine WO.split 3 (fun σ' S' e' => Known ([(0, (.ptr id 0)), (3, v151), (5, (.int .i64 (Lib.indexByte [48, 49, 50, 51, 52, 53, 54, 55, 56, 57, 97, 98, 99, 100, 101, 102] (Int.toNat y200).toUInt8))), (6, (.int .i64 (Lib.indexByte [48, 49, 50, 51, 52, 53, 54, 55, 56, 57, 97, 98, 99, 100, 101, 102] (Int.toNat y201).toUInt8))), (65, (.ptr id 0)), (73, (.bool (b152.fails || (decide ((Lib.indexByte [48, 49, 50, 51, 52, 53, 54, 55, 56, 57, 97, 98, 99, 100, 101, 102] (Int.toNat y200).toUInt8) < 0)))))]) σ' ∧ Hp S0 R S' [(id, .cells [(.str b152.s_), (.int .i64 (ad .i64 (ad .i64 (ad .i64 b152.at_ 1) 1) 1)), (.int .i64 b152.left), (.bool b152.fails)])] [(v151, 1)] [] ∧ e' = false) ?_ ?_
         ·revert H
          cases hc202 : b152.fails
          ·intro H
           refine WO.go0 rfl rfl ?_
           refine WS (v := (.int .i64 (Lib.indexByte [48, 49, 50, 51, 52, 53, 54, 55, 56, 57, 97, 98, 99, 100, 101, 102] (Int.toNat y200).toUInt8))) rfl (nz rfl rfl) ?_
           refine WO.go0 rfl rfl ?_
           refine WS (v := (.bool (decide ((Lib.indexByte [48, 49, 50, 51, 52, 53, 54, 55, 56, 57, 97, 98, 99, 100, 101, 102] (Int.toNat y200).toUInt8) < 0)))) rfl (nz rfl rfl) ?_
           refine WS (v := (.bool (decide ((Lib.indexByte [48, 49, 50, 51, 52, 53, 54, 55, 56, 57, 97, 98, 99, 100, 101, 102] (Int.toNat y200).toUInt8) < 0)))) rfl (nz rfl rfl) ?_
           refine WO.nil ?_
           exact ⟨(kc rfl (kc rfl (kc rfl (kc rfl (kc rfl (kc rfl known_nil)))))), H, rfl⟩
          ·intro H
           refine WO.by rfl rfl rfl ?_
           refine WO.by rfl rfl rfl ?_
           refine WS (v := .bool true) rfl (nz rfl rfl) ?_
           refine WO.nil ?_
           exact ⟨(kc rfl (kc rfl (kc rfl (kc rfl (kc rfl (kc rfl known_nil)))))), H, rfl⟩
         ·rintro σ S e ⟨hk, H, rfl⟩
          refine WO.of_known hk ?_
          refine WS (v := (.bool (b152.fails || (decide ((Lib.indexByte [48, 49, 50, 51, 52, 53, 54, 55, 56, 57, 97, 98, 99, 100, 101, 102] (Int.toNat y200).toUInt8) < 0))))) rfl (nz rfl rfl) ?_
          refine WO.split 3 (fun σ' S' e' => Known ([(0, (.ptr id 0)), (3, v151), (5, (.int .i64 (Lib.indexByte [48, 49, 50, 51, 52, 53, 54, 55, 56, 57, 97, 98, 99, 100, 101, 102] (Int.toNat y200).toUInt8))), (6, (.int .i64 (Lib.indexByte [48, 49, 50, 51, 52, 53, 54, 55, 56, 57, 97, 98, 99, 100, 101, 102] (Int.toNat y201).toUInt8))), (65, (.ptr id 0)), (77, (.bool ((b152.fails || (decide ((Lib.indexByte [48, 49, 50, 51, 52, 53, 54, 55, 56, 57, 97, 98, 99, 100, 101, 102] (Int.toNat y200).toUInt8) < 0))) || (decide ((Lib.indexByte [48, 49, 50, 51, 52, 53, 54, 55, 56, 57, 97, 98, 99, 100, 101, 102] (Int.toNat y201).toUInt8) < 0)))))]) σ' ∧ Hp S0 R S' [(id, .cells [(.str b152.s_), (.int .i64 (ad .i64 (ad .i64 (ad .i64 b152.at_ 1) 1) 1)), (.int .i64 b152.left), (.bool b152.fails)])] [(v151, 1)] [] ∧ e' = false) ?_ ?_
          ·revert H
           cases hc203 : (b152.fails || (decide ((Lib.indexByte [48, 49, 50, 51, 52, 53, 54, 55, 56, 57, 97, 98, 99, 100, 101, 102] (Int.toNat y200).toUInt8) < 0)))
           ·intro H
            refine WO.go0 rfl rfl ?_
            refine WS (v := (.int .i64 (Lib.indexByte [48, 49, 50, 51, 52, 53, 54, 55, 56, 57, 97, 98, 99, 100, 101, 102] (Int.toNat y201).toUInt8))) rfl (nz rfl rfl) ?_
            refine WO.go0 rfl rfl ?_
            refine WS (v := (.bool (decide ((Lib.indexByte [48, 49, 50, 51, 52, 53, 54, 55, 56, 57, 97, 98, 99, 100, 101, 102] (Int.toNat y201).toUInt8) < 0)))) rfl (nz rfl rfl) ?_
            refine WS (v := (.bool (decide ((Lib.indexByte [48, 49, 50, 51, 52, 53, 54, 55, 56, 57, 97, 98, 99, 100, 101, 102] (Int.toNat y201).toUInt8) < 0)))) rfl (nz rfl rfl) ?_
            refine WO.nil ?_
            exact ⟨(kc rfl (kc rfl (kc rfl (kc rfl (kc rfl (kc rfl known_nil)))))), H, rfl⟩
           ·intro H
            refine WO.by rfl rfl rfl ?_
            refine WO.by rfl rfl rfl ?_
            refine WS (v := .bool true) rfl (nz rfl rfl) ?_
            refine WO.nil ?_
            exact ⟨(kc rfl (kc rfl (kc rfl (kc rfl (kc rfl (kc rfl known_nil)))))), H, rfl⟩
          ·rintro σ S e ⟨hk, H, rfl⟩
           refine WO.of_known hk ?_
           refine WS (v := .ptr id 0) rfl (nz rfl rfl) ?_
           refine WS (v := .ptr id 3) rfl (nz rfl rfl) ?_
           refine WO.store 0 rfl rfl H rfl rfl rfl rfl rfl rfl rfl (Nat.le_of_ble_eq_true rfl) rfl (clean_e rfl) ?_
           intro S H
           replace H : Hp S0 R _ [(id, .cells [(.str b152.s_), (.int .i64 (ad .i64 (ad .i64 (ad .i64 b152.at_ 1) 1) 1)), (.int .i64 b152.left), (.bool ((b152.fails || (decide ((Lib.indexByte [48, 49, 50, 51, 52, 53, 54, 55, 56, 57, 97, 98, 99, 100, 101, 102] (Int.toNat y200).toUInt8) < 0))) || (decide ((Lib.indexByte [48, 49, 50, 51, 52, 53, 54, 55, 56, 57, 97, 98, 99, 100, 101, 102] (Int.toNat y201).toUInt8) < 0))))])] [(v151, 1)] [] := H
           refine WO.nil ?_
           refine WC.region ?_
           refine WS (v := (.int .i64 (Lib.indexByte [48, 49, 50, 51, 52, 53, 54, 55, 56, 57, 97, 98, 99, 100, 101, 102] (Int.toNat y200).toUInt8))) rfl (nz rfl rfl) ?_
           refine WS (v := (.int .i64 (imax (Lib.indexByte [48, 49, 50, 51, 52, 53, 54, 55, 56, 57, 97, 98, 99, 100, 101, 102] (Int.toNat y200).toUInt8) 0))) rfl (nz rfl rfl) ?_
           obtain ⟨z204, hz204, h⟩ := bindS h
           refine WS (v := .int .i64 z204) rfl (nz rfl (stp_shl rfl rfl hz204)) ?_
           refine WS (v := (.int .i64 (Lib.indexByte [48, 49, 50, 51, 52, 53, 54, 55, 56, 57, 97, 98, 99, 100, 101, 102] (Int.toNat y201).toUInt8))) rfl (nz rfl rfl) ?_
           refine WS (v := (.int .i64 (imax (Lib.indexByte [48, 49, 50, 51, 52, 53, 54, 55, 56, 57, 97, 98, 99, 100, 101, 102] (Int.toNat y201).toUInt8) 0))) rfl (nz rfl rfl) ?_
           refine WS (v := (.int .i64 (bOr .i64 z204 (imax (Lib.indexByte [48, 49, 50, 51, 52, 53, 54, 55, 56, 57, 97, 98, 99, 100, 101, 102] (Int.toNat y201).toUInt8) 0)))) rfl (nz rfl rfl) ?_
           refine WS (v := (.int .u8 (cv .u8 (bOr .i64 z204 (imax (Lib.indexByte [48, 49, 50, 51, 52, 53, 54, 55, 56, 57, 97, 98, 99, 100, 101, 102] (Int.toNat y201).toUInt8) 0))))) rfl (nz rfl rfl) ?_
           refine WS (v := (.int .u8 (cv .u8 (bOr .i64 z204 (imax (Lib.indexByte [48, 49, 50, 51, 52, 53, 54, 55, 56, 57, 97, 98, 99, 100, 101, 102] (Int.toNat y201).toUInt8) 0))))) rfl (nz rfl rfl) ?_
           refine WO.nil ?_
           refine KX.seq_n ?_
           obtain rfl := Option.some.inj h
           exact ⟨(kc rfl (kc rfl (kc rfl known_nil))), (H.sub (.cons_cons _ .slnil) (.cons_cons _ .slnil) .slnil), rfl⟩
        ·refine WC.condF rfl hc205 ?_
         refine WC.skip ?_
         refine KX.seq_n ?_
         obtain rfl := Option.some.inj h
         exact ⟨(kc rfl (kc rfl (kc rfl known_nil))), (H.sub (.cons_cons _ .slnil) (.cons_cons _ .slnil) .slnil), rfl⟩
       ·rintro σ S e ⟨hk, H, rfl⟩
        replace h := hOy199
        refine KX.of_known hk ?_
        refine KX.seq_n ?_
        refine WC.region ?_
        refine WS (v := v151) rfl (nz rfl rfl) ?_
        refine WS (v := .int .u8 y199.1) rfl (nz rfl rfl) ?_
        refine WS rfl (nz rfl (stp_buildSlice (ys := [y199.1]) (f := (eI .u8)) (parts := [(0, (.int .u8 y199.1))]) rfl rfl rfl rfl rfl rfl (fc ⟨rfl, rfl⟩ (fun p hp => nomatch hp)) rfl)) ?_
        have hv206 : IsSl (eI .u8) (some [y199.1]) _ := ⟨.full, rfl⟩
        obtain ⟨z207, hz207, h⟩ := bindS h
        refine WO.ex rfl (nzx (fz_tmp' hv206.frz rfl) (stp_app (f := (eI .u8)) (ei := ty5) H 0 rfl rfl hv151 rfl hv206 rfl rfl rfl rfl (fun _ => rfl) hz207)) ?_
        rintro v208 S ⟨hv208, H⟩
        replace H : Hp S0 R _ [(id, .cells [(.str y199.2.s_), (.int .i64 y199.2.at_), (.int .i64 y199.2.left), (.bool y199.2.fails)])] [(v208, 1)] [] := H
        refine WS (v := v208) rfl (nz rfl rfl) ?_
        refine WO.nil ?_
        refine KX.block_n ?_
        refine KX.seq_n ?_
        exact ih h v208 (hv208) (kc rfl (kc rfl known_nil)) (H.sub (.cons_cons _ .slnil) (.cons_cons _ .slnil) .slnil)
  ·refine WC.condF rfl hc210 ?_
   refine WC.exit ?_
   refine KX.seq_x ?_
   refine KX.seq_x ?_
   obtain rfl := Option.some.inj h
   exact hbrk v151 (hv151) (kc rfl known_nil) (H.sub (.cons_cons _ .slnil) (.cons_cons _ .slnil) .slnil)
theorem s46 : ∀ k : Nat, ∀ {a0 : Filter_reader} {r : Filter_reader × Str}, F46 k a0 = some r → ∀ {id : Nat} {S : List SObj}, S[id]? = some (.cells [(.str a0.s_), (.int .i64 a0.at_), (.int .i64 a0.left), (.bool a0.fails)]) → evw env 46 [.ptr id 0] S = some ((.str r.2), S.set id (.cells [(.str r.1.s_), (.int .i64 r.1.at_), (.int .i64 r.1.left), (.bool r.1.fails)]), false) := by
 intro k a0 r h id S0 hS
 unfold F46 at h
 refine evw_recvW (pf := fn46) rfl rfl (Nat.le_of_ble_eq_true rfl) rfl ?_
 refine WB.of (pf := fn46) rfl ?_
 have H := Hp.start1 hS rfl
 refine WC.seqR ?_
 refine WS (v := .str []) rfl (nz rfl rfl) ?_
 refine WO.nil ?_
 refine WC.seqR ?_
 refine WS (v := .nils) rfl (nz rfl rfl) ?_
 refine WO.nil ?_
 refine WC.seq ?_
 obtain ⟨y212, hy212, hOy212⟩ := bindS h
 refine WC.block ?_
 have H := H.addNil 1
 refine l46_L0 ?_ hy212 .nils ((isSl_nil _)) (kc rfl (kc rfl known_nil)) (H.sub (.cons_cons _ .slnil) (.cons_cons _ .slnil) .slnil)
 ·intro σ S v213 hv213 hk H; replace h := hOy212
  refine KX.of_known hk ?_
  refine KX.block_x ?_
  refine KX.seq_n ?_
  refine WC.seqR ?_
  refine WS (v := v213) rfl (nz rfl rfl) ?_
  refine WS (v := (.str (Str.of y212.1))) rfl (nz (fz_tmp' hv213.frz rfl) (stp_text rfl hv213 rfl rfl rfl)) ?_
  refine WS (v := (.str (Str.of y212.1))) rfl (nz rfl rfl) ?_
  refine WO.nil ?_
  refine WC.ret ?_
  obtain rfl := Option.some.inj h
  refine KB.ret (vs := [(.str (Str.of y212.1))]) (res_tmp rfl res_nil) (fl_cons' rfl rfl) ?_
  exact leave_hp hS H 0 rfl rfl rfl
def F41_L0 (k : Nat) (a29 : Int) (a31 : Api_Filter) : Nat → Int → Filter_reader → Option (Int × Filter_reader)
 | 0, _, _ => none
 | n + 1, x30, b32 =>
  if (((decide (x30 ≥ 97)) && (decide (x30 ≤ 122))) || ((decide (x30 ≥ 48)) && (decide (x30 ≤ 57)))) || (x30 == 45) then
  Option.bind (F40 k (Filter_reader.mk b32.s_ (ad .i64 b32.at_ 1) b32.left b32.fails) ) fun y40 =>
  F41_L0 k a29 a31 n y40 (Filter_reader.mk b32.s_ (ad .i64 b32.at_ 1) b32.left b32.fails)
  else
  some (x30, b32)
def F41_L3 (k : Nat) (a155 : Api_Filter) : Nat → Api_Filter → Filter_reader → Option (Api_Filter × Filter_reader)
 | 0, _, _ => none
 | n + 1, b152, b156 =>
  Option.bind (F40 k b156 ) fun y157 =>
  if y157 == 42 then
  Option.bind (F46 k (Filter_reader.mk b156.s_ (ad .i64 b156.at_ 1) b156.left b156.fails) ) fun y164 =>
  Option.bind (Sl.app? 16 b152.Subs (Sl.l (some [y164.2]))) fun z167 =>
  F41_L3 k a155 n (Api_Filter.mk b152.Kind b152.Attr b152.Value z167 b152.Kids) y164.1
  else
  some (b152, b156)
def F41 (k : Nat) (a0 : Filter_reader) : Option (Filter_reader × Api_Filter) :=
 Option.bind (F40 k a0 ) fun y2 =>
 Option.bind (F41_L0 k a0.at_ (Api_Filter.mk 0 [] [] none none) k y2 a0) fun y42 =>
 Option.bind (Str.sub? y42.2.s_ (imin a0.at_ y42.2.at_) y42.2.at_) fun z43 =>
 Option.bind (F40 k y42.2 ) fun y46 =>
 Option.bind (if y46 == 62 then
 some ((Api_Filter.mk 5 z43 [] none none), (Filter_reader.mk y42.2.s_ (ad .i64 y42.2.at_ 1) y42.2.left y42.2.fails))
 else
 Option.bind (if y46 == 60 then
 some ((Api_Filter.mk 6 z43 [] none none), (Filter_reader.mk y42.2.s_ (ad .i64 y42.2.at_ 1) y42.2.left y42.2.fails))
 else
 some ((Api_Filter.mk 4 z43 [] none none), y42.2)) fun y90 =>
 some (y90.1, y90.2)) fun y85 =>
 Option.bind (F39 k y85.2 61) fun y95 =>
 Option.bind (F46 k y95 ) fun y96 =>
 Option.bind (if y85.1.Kind != 4 then
 some true
 else
 Option.bind (F40 k y96.1 ) fun y102 =>
 some (y102 != 42)) fun y101 =>
 if y101 then
 some (y96.1, (Api_Filter.mk y85.1.Kind y85.1.Attr y96.2 y85.1.Subs y85.1.Kids))
 else
 Option.bind (F41_L3 k (Api_Filter.mk 0 [] [] none none) k (Api_Filter.mk y85.1.Kind y85.1.Attr [] (some [y96.2]) y85.1.Kids) y96.1) fun y172 =>
 Option.bind (if (Sl.len y172.1.Subs) == 2 then
 Option.bind (Sl.at? y172.1.Subs 0) fun y180 =>
 some (y180 == [])
 else
 some false) fun y179 =>
 Option.bind (if y179 then
 Option.bind (Sl.at? y172.1.Subs 1) fun y187 =>
 some (y187 == [])
 else
 some false) fun y186 =>
 Option.bind (if y186 then
 some (Api_Filter.mk 7 y172.1.Attr y172.1.Value none y172.1.Kids)
 else
 some (Api_Filter.mk 8 y172.1.Attr y172.1.Value y172.1.Subs y172.1.Kids)) fun y191 =>
 some (y172.2, y191)
theorem l41_L0 {k : Nat} {a29 : Int} {a31 : Api_Filter} {S0 : List SObj} {R : List Nat} {K : KX} {i1 : Nat} {id : Nat} (hi1 : S0.length ≤ i1)  {o : (Int × Filter_reader)}
  (hbrk : ∀ {σ' : Nat → PV} {S' : List SObj}, Known [(0, (.ptr id 0)), (2, (.ptr i1 0)), (3, (.int .i64 a29))] σ' → Hp S0 R S' [(i1, .cells [(.int .i64 a31.Kind), (.str a31.Attr), (.str a31.Value), .nils, .nils]), (id, .cells [(.str o.2.s_), (.int .i64 o.2.at_), (.int .i64 o.2.left), (.bool o.2.fails)])] [] [] → K (.exit 0) σ' S' false) :
  ∀ {n : Nat} {x30 : Int} {b32 : Filter_reader}, F41_L0 k a29 a31 n x30 b32 = some o → ∀ {σ : Nat → PV} {S : List SObj}, Known [(0, (.ptr id 0)), (2, (.ptr i1 0)), (3, (.int .i64 a29)), (4, (.int .u8 x30))] σ → Hp S0 R S [(i1, .cells [(.int .i64 a31.Kind), (.str a31.Attr), (.str a31.Value), .nils, .nils]), (id, .cells [(.str b32.s_), (.int .i64 b32.at_), (.int .i64 b32.left), (.bool b32.fails)])] [] [] → WC env ⟨135, S0.length⟩ (.loop pc41L0) σ S false K := by
 intro n
 induction n with
 | zero => intro _ _ h; cases h
 | succ n ih =>
  intro x30 b32 h σ S  hk H
  rw [F41_L0] at h
  refine WC.loop ?_
  refine WC.of_known hk ?_
  refine WC.seq ?_
  refine WC.seqR ?_
  refine WS (v := .int .u8 x30) rfl (nz rfl rfl) ?_
  refine WS (v := (.bool (decide (x30 ≥ 97)))) rfl (nz rfl rfl) ?_
  refine WS (v := (.bool (decide (x30 ≥ 97)))) rfl (nz rfl rfl) ?_
  refine WO.split 3 (fun σ' S' e' => Known ([(0, (.ptr id 0)), (2, (.ptr i1 0)), (3, (.int .i64 a29)), (4, (.int .u8 x30)), (17, (.bool ((decide (x30 ≥ 97)) && (decide (x30 ≤ 122)))))]) σ' ∧ Hp S0 R S' [(i1, .cells [(.int .i64 a31.Kind), (.str a31.Attr), (.str a31.Value), .nils, .nils]), (id, .cells [(.str b32.s_), (.int .i64 b32.at_), (.int .i64 b32.left), (.bool b32.fails)])] [] [] ∧ e' = false) ?_ ?_
  ·revert H
   cases hc33 : (decide (x30 ≥ 97))
   ·intro H
    refine WO.by rfl rfl rfl ?_
    refine WO.by rfl rfl rfl ?_
    refine WS (v := .bool false) rfl (nz rfl rfl) ?_
    refine WO.nil ?_
    exact ⟨(kc rfl (kc rfl (kc rfl (kc rfl (kc rfl known_nil))))), H, rfl⟩
   ·intro H
    refine WO.go0 rfl rfl ?_
    refine WS (v := .int .u8 x30) rfl (nz rfl rfl) ?_
    refine WO.go0 rfl rfl ?_
    refine WS (v := (.bool (decide (x30 ≤ 122)))) rfl (nz rfl rfl) ?_
    refine WS (v := (.bool (decide (x30 ≤ 122)))) rfl (nz rfl rfl) ?_
    refine WO.nil ?_
    exact ⟨(kc rfl (kc rfl (kc rfl (kc rfl (kc rfl known_nil))))), H, rfl⟩
  ·rintro σ S e ⟨hk, H, rfl⟩
   refine WO.of_known hk ?_
   refine WS (v := (.bool ((decide (x30 ≥ 97)) && (decide (x30 ≤ 122))))) rfl (nz rfl rfl) ?_
   refine WO.split 7 (fun σ' S' e' => Known ([(0, (.ptr id 0)), (2, (.ptr i1 0)), (3, (.int .i64 a29)), (4, (.int .u8 x30)), (25, (.bool (((decide (x30 ≥ 97)) && (decide (x30 ≤ 122))) || ((decide (x30 ≥ 48)) && (decide (x30 ≤ 57))))))]) σ' ∧ Hp S0 R S' [(i1, .cells [(.int .i64 a31.Kind), (.str a31.Attr), (.str a31.Value), .nils, .nils]), (id, .cells [(.str b32.s_), (.int .i64 b32.at_), (.int .i64 b32.left), (.bool b32.fails)])] [] [] ∧ e' = false) ?_ ?_
   ·revert H
    cases hc36 : ((decide (x30 ≥ 97)) && (decide (x30 ≤ 122)))
    ·intro H
     refine WO.go0 rfl rfl ?_
     refine WS (v := .int .u8 x30) rfl (nz rfl rfl) ?_
     refine WO.go0 rfl rfl ?_
     refine WS (v := (.bool (decide (x30 ≥ 48)))) rfl (nz rfl rfl) ?_
     refine WO.go0 rfl rfl ?_
     refine WS (v := (.bool (decide (x30 ≥ 48)))) rfl (nz rfl rfl) ?_
     refine WO.split 3 (fun σ' S' e' => Known ([(0, (.ptr id 0)), (2, (.ptr i1 0)), (3, (.int .i64 a29)), (4, (.int .u8 x30)), (18, (.bool false)), (24, (.bool ((decide (x30 ≥ 48)) && (decide (x30 ≤ 57)))))]) σ' ∧ Hp S0 R S' [(i1, .cells [(.int .i64 a31.Kind), (.str a31.Attr), (.str a31.Value), .nils, .nils]), (id, .cells [(.str b32.s_), (.int .i64 b32.at_), (.int .i64 b32.left), (.bool b32.fails)])] [] [] ∧ e' = false) ?_ ?_
     ·revert H
      cases hc37 : (decide (x30 ≥ 48))
      ·intro H
       refine WO.by rfl rfl rfl ?_
       refine WO.by rfl rfl rfl ?_
       refine WO.go0 rfl rfl ?_
       refine WS (v := .bool false) rfl (nz rfl rfl) ?_
       refine WO.nil ?_
       exact ⟨(kc rfl (kc rfl (kc rfl (kc rfl (kc rfl (kc rfl known_nil)))))), H, rfl⟩
      ·intro H
       refine WO.go0 rfl rfl ?_
       refine WS (v := .int .u8 x30) rfl (nz rfl rfl) ?_
       refine WO.go0 rfl rfl ?_
       refine WS (v := (.bool (decide (x30 ≤ 57)))) rfl (nz rfl rfl) ?_
       refine WO.go0 rfl rfl ?_
       refine WS (v := (.bool (decide (x30 ≤ 57)))) rfl (nz rfl rfl) ?_
       refine WO.nil ?_
       exact ⟨(kc rfl (kc rfl (kc rfl (kc rfl (kc rfl (kc rfl known_nil)))))), H, rfl⟩
     ·rintro σ S e ⟨hk, H, rfl⟩
      refine WO.of_known hk ?_
      refine WS (v := (.bool ((decide (x30 ≥ 48)) && (decide (x30 ≤ 57))))) rfl (nz rfl rfl) ?_
      refine WO.nil ?_
      exact ⟨(kc rfl (kc rfl (kc rfl (kc rfl (kc rfl known_nil))))), H, rfl⟩
    ·intro H
     refine WO.by rfl rfl rfl ?_
     refine WO.by rfl rfl rfl ?_
     refine WO.by rfl rfl rfl ?_
     refine WO.by0 rfl rfl ?_
     refine WO.by0 rfl rfl ?_
     refine WO.by rfl rfl rfl ?_
     refine WS (v := .bool true) rfl (nz rfl rfl) ?_
     refine WO.nil ?_
     exact ⟨(kc rfl (kc rfl (kc rfl (kc rfl (kc rfl known_nil))))), H, rfl⟩
   ·rintro σ S e ⟨hk, H, rfl⟩
    refine WO.of_known hk ?_
    refine WS (v := (.bool (((decide (x30 ≥ 97)) && (decide (x30 ≤ 122))) || ((decide (x30 ≥ 48)) && (decide (x30 ≤ 57)))))) rfl (nz rfl rfl) ?_
    refine WO.split 3 (fun σ' S' e' => Known ([(0, (.ptr id 0)), (2, (.ptr i1 0)), (3, (.int .i64 a29)), (29, (.bool ((((decide (x30 ≥ 97)) && (decide (x30 ≤ 122))) || ((decide (x30 ≥ 48)) && (decide (x30 ≤ 57)))) || (x30 == 45))))]) σ' ∧ Hp S0 R S' [(i1, .cells [(.int .i64 a31.Kind), (.str a31.Attr), (.str a31.Value), .nils, .nils]), (id, .cells [(.str b32.s_), (.int .i64 b32.at_), (.int .i64 b32.left), (.bool b32.fails)])] [] [] ∧ e' = false) ?_ ?_
    ·revert H
     cases hc38 : (((decide (x30 ≥ 97)) && (decide (x30 ≤ 122))) || ((decide (x30 ≥ 48)) && (decide (x30 ≤ 57))))
     ·intro H
      refine WO.go0 rfl rfl ?_
      refine WS (v := .int .u8 x30) rfl (nz rfl rfl) ?_
      refine WO.go0 rfl rfl ?_
      refine WS (v := (.bool (x30 == 45))) rfl (nz rfl rfl) ?_
      refine WS (v := (.bool (x30 == 45))) rfl (nz rfl rfl) ?_
      refine WO.nil ?_
      exact ⟨(kc rfl (kc rfl (kc rfl (kc rfl known_nil)))), H, rfl⟩
     ·intro H
      refine WO.by rfl rfl rfl ?_
      refine WO.by rfl rfl rfl ?_
      refine WS (v := .bool true) rfl (nz rfl rfl) ?_
      refine WO.nil ?_
      exact ⟨(kc rfl (kc rfl (kc rfl (kc rfl known_nil)))), H, rfl⟩
    ·rintro σ S e ⟨hk, H, rfl⟩
     refine WO.of_known hk ?_
     refine WO.nil ?_
     rcases iteS h with ⟨hc41, h⟩ | ⟨hc41, h⟩
     ·refine WC.condT rfl hc41 ?_
      refine WC.skip ?_
      refine KX.seq_n ?_
      refine WC.seq ?_
      refine WC.block ?_
      refine WC.region ?_
      refine WS (v := .ptr id 0) rfl (nz rfl rfl) ?_
      refine WS (v := .ptr id 0) rfl (nz rfl rfl) ?_
      refine WS (v := .ptr id 1) rfl (nz rfl rfl) ?_
      refine WS (v := .int .i64 b32.at_) rfl (nz rfl (stp_load rfl (H.get 1 rfl) rfl)) ?_
      refine WS (v := (.int .i64 (ad .i64 b32.at_ 1))) rfl (nz rfl rfl) ?_
      refine WS (v := .ptr id 0) rfl (nz rfl rfl) ?_
      refine WS (v := .ptr id 1) rfl (nz rfl rfl) ?_
      refine WO.store 1 rfl rfl H rfl rfl rfl rfl rfl rfl rfl (Nat.le_of_ble_eq_true rfl) rfl (clean_e rfl) ?_
      intro S H
      replace H : Hp S0 R _ [(i1, .cells [(.int .i64 a31.Kind), (.str a31.Attr), (.str a31.Value), .nils, .nils]), (id, .cells [(.str b32.s_), (.int .i64 (ad .i64 b32.at_ 1)), (.int .i64 b32.left), (.bool b32.fails)])] [] [] := H
      refine WO.nil ?_
      refine KX.block_n ?_
      refine KX.seq_n ?_
      refine WC.region ?_
      refine WS (v := .ptr id 0) rfl (nz rfl rfl) ?_
      obtain ⟨y40, hy40, h⟩ := bindS h
      refine WS (v := .int .u8 y40) rfl (nz rfl (stp_call (vs := [(.ptr id 0)]) rfl rfl (s40 _ hy40 (H.get 1 rfl)))) ?_
      refine WS (v := .int .u8 y40) rfl (nz rfl rfl) ?_
      refine WO.nil ?_
      refine KX.seq_n ?_
      exact ih h  (kc rfl (kc rfl (kc rfl (kc rfl known_nil)))) (H.sub (.cons_cons _ (.cons_cons _ .slnil)) .slnil .slnil)
     ·refine WC.condF rfl hc41 ?_
      refine WC.exit ?_
      refine KX.seq_x ?_
      refine KX.seq_x ?_
      obtain rfl := Option.some.inj h
      exact hbrk  (kc rfl (kc rfl (kc rfl known_nil))) (H.sub (.cons_cons _ (.cons_cons _ .slnil)) .slnil .slnil)
theorem l41_L3 {k : Nat} {a155 : Api_Filter} {S0 : List SObj} {R : List Nat} {K : KX} {i44 : Nat} {i1 : Nat} {id : Nat} (hi44 : S0.length ≤ i44) (hi1 : S0.length ≤ i1)  {o : (Api_Filter × Filter_reader)}
  (hbrk : ∀ {σ' : Nat → PV} {S' : List SObj}, ∀ (v170 : PV) (_ : IsSl eS o.1.Subs v170), ∀ (v171 : PV) (_ : IsSl e_Api_Filter o.1.Kids v171), Known [(2, (.ptr i1 0)), (5, (.ptr i44 0))] σ' → Hp S0 R S' [(i44, .cells [(.int .i64 o.1.Kind), (.str o.1.Attr), (.str o.1.Value), v170, v171]), (i1, .cells [(.int .i64 a155.Kind), (.str a155.Attr), (.str a155.Value), .nils, .nils]), (id, .cells [(.str o.2.s_), (.int .i64 o.2.at_), (.int .i64 o.2.left), (.bool o.2.fails)])] [(v170, 1)] [] → K (.exit 3) σ' S' false) :
  ∀ {n : Nat} {b152 : Api_Filter} {b156 : Filter_reader}, F41_L3 k a155 n b152 b156 = some o → ∀ {σ : Nat → PV} {S : List SObj}, ∀ (v153 : PV) (_ : IsSl eS b152.Subs v153), ∀ (v154 : PV) (_ : IsSl e_Api_Filter b152.Kids v154), Known [(0, (.ptr id 0)), (2, (.ptr i1 0)), (5, (.ptr i44 0))] σ → Hp S0 R S [(i44, .cells [(.int .i64 b152.Kind), (.str b152.Attr), (.str b152.Value), v153, v154]), (i1, .cells [(.int .i64 a155.Kind), (.str a155.Attr), (.str a155.Value), .nils, .nils]), (id, .cells [(.str b156.s_), (.int .i64 b156.at_), (.int .i64 b156.left), (.bool b156.fails)])] [(v153, 1)] [] → WC env ⟨135, S0.length⟩ (.loop pc41L3) σ S false K := by
 intro n
 induction n with
 | zero => intro _ _ h; cases h
 | succ n ih =>
  intro b152 b156 h σ S v153 hv153 v154 hv154 hk H
  rw [F41_L3] at h
  refine WC.loop ?_
  refine WC.of_known hk ?_
  refine WC.seq ?_
  refine WC.seqR ?_
  refine WS (v := .ptr id 0) rfl (nz rfl rfl) ?_
  obtain ⟨y157, hy157, h⟩ := bindS h
  refine WS (v := .int .u8 y157) rfl (nz rfl (stp_call (vs := [(.ptr id 0)]) rfl rfl (s40 _ hy157 (H.get 2 rfl)))) ?_
  refine WS (v := (.bool (y157 == 42))) rfl (nz rfl rfl) ?_
  refine WO.nil ?_
  rcases iteS h with ⟨hc169, h⟩ | ⟨hc169, h⟩
  ·refine WC.condT rfl hc169 ?_
   refine WC.skip ?_
   refine KX.seq_n ?_
   refine WC.block ?_
   refine WC.seqR ?_
   refine WS (v := .ptr id 0) rfl (nz rfl rfl) ?_
   refine WS (v := .ptr id 0) rfl (nz rfl rfl) ?_
   refine WS (v := .ptr id 1) rfl (nz rfl rfl) ?_
   refine WS (v := .int .i64 b156.at_) rfl (nz rfl (stp_load rfl (H.get 2 rfl) rfl)) ?_
   refine WS (v := (.int .i64 (ad .i64 b156.at_ 1))) rfl (nz rfl rfl) ?_
   refine WS (v := .ptr id 0) rfl (nz rfl rfl) ?_
   refine WS (v := .ptr id 1) rfl (nz rfl rfl) ?_
   refine WO.store 2 rfl rfl H rfl rfl rfl rfl rfl rfl rfl (Nat.le_of_ble_eq_true rfl) rfl (clean_e rfl) ?_
   intro S H
   replace H : Hp S0 R _ [(i44, .cells [(.int .i64 b152.Kind), (.str b152.Attr), (.str b152.Value), v153, v154]), (i1, .cells [(.int .i64 a155.Kind), (.str a155.Attr), (.str a155.Value), .nils, .nils]), (id, .cells [(.str b156.s_), (.int .i64 (ad .i64 b156.at_ 1)), (.int .i64 b156.left), (.bool b156.fails)])] [(v153, 1)] [] := H
   refine WO.nil ?_
   refine WC.drawC ?_
   refine WK.step (v := .ptr i44 3) rfl (nz rfl rfl) rfl rfl rfl rfl ?_
   refine WK.load rfl rfl (ld (H.get 0 rfl) rfl) hist_nil ?_
   refine WK.step (v := .ptr id 0) rfl (nz rfl rfl) rfl rfl rfl rfl ?_
   obtain ⟨y164, hy164, h⟩ := bindS h
   have Hh165 := H
   refine WK.callR 2 rfl rfl rfl rfl H rfl (s46 _ hy164 (H.get 2 rfl)) ?_
   intro S H
   replace H : Hp S0 R _ [(i44, .cells [(.int .i64 b152.Kind), (.str b152.Attr), (.str b152.Value), v153, v154]), (i1, .cells [(.int .i64 a155.Kind), (.str a155.Attr), (.str a155.Value), .nils, .nils]), (id, .cells [(.str y164.1.s_), (.int .i64 y164.1.at_), (.int .i64 y164.1.left), (.bool y164.1.fails)])] [(v153, 1)] [] := H
   refine ⟨(pend_cons (ld (H.get 0 rfl) rfl) pend_nil), ?_⟩
   refine WK.step rfl (nz rfl (stp_buildSlice (ys := [y164.2]) (f := eS) (parts := [(0, (.str y164.2))]) rfl rfl rfl rfl rfl rfl (fc ⟨rfl, rfl⟩ (fun p hp => nomatch hp)) rfl)) rfl rfl rfl rfl ?_
   have hv166 : IsSl eS (some [y164.2]) _ := ⟨.full, rfl⟩
   refine WK.nil ?_
   obtain ⟨z167, hz167, h⟩ := bindS h
   refine WO.ex rfl (nzx (fz_tmp' hv166.frz rfl) (stp_app (f := eS) (ei := ty9) H 0 rfl rfl hv153 rfl hv166 rfl rfl rfl rfl (fun _ => rfl) hz167)) ?_
   rintro v168 S ⟨hv168, H⟩
   replace H : Hp S0 R _ [(i44, .cells [(.int .i64 b152.Kind), (.str b152.Attr), (.str b152.Value), v153, v154]), (i1, .cells [(.int .i64 a155.Kind), (.str a155.Attr), (.str a155.Value), .nils, .nils]), (id, .cells [(.str y164.1.s_), (.int .i64 y164.1.at_), (.int .i64 y164.1.left), (.bool y164.1.fails)])] [(v168, 1)] [] := H
   refine WS (v := .ptr i44 3) rfl (nz rfl rfl) ?_
   refine WO.store 0 rfl (fz_tmp' hv168.frz rfl) H rfl rfl rfl rfl hv168.one.1 hv168.one.2 rfl (Nat.le_of_ble_eq_true rfl) rfl (own_e hi44) ?_
   intro S H
   replace H : Hp S0 R _ [(i44, .cells [(.int .i64 b152.Kind), (.str b152.Attr), (.str b152.Value), v168, v154]), (i1, .cells [(.int .i64 a155.Kind), (.str a155.Attr), (.str a155.Value), .nils, .nils]), (id, .cells [(.str y164.1.s_), (.int .i64 y164.1.at_), (.int .i64 y164.1.left), (.bool y164.1.fails)])] [(v168, 1)] [] := H
   refine WO.nil ?_
   refine KX.block_n ?_
   refine KX.seq_n ?_
   exact ih h v168 (hv168) v154 (hv154) (kc rfl (kc rfl (kc rfl known_nil))) (H.sub (.cons_cons _ (.cons_cons _ (.cons_cons _ .slnil))) (.cons_cons _ .slnil) .slnil)
  ·refine WC.condF rfl hc169 ?_
   refine WC.exit ?_
   refine KX.seq_x ?_
   refine KX.seq_x ?_
   obtain rfl := Option.some.inj h
   exact hbrk v153 (hv153) v154 (hv154) (kc rfl (kc rfl known_nil)) (H.sub (.cons_cons _ (.cons_cons _ (.cons_cons _ .slnil))) (.cons_cons _ .slnil) .slnil)
theorem s41 : ∀ k : Nat, ∀ {a0 : Filter_reader} {r : Filter_reader × Api_Filter}, F41 k a0 = some r → ∀ {id : Nat} {S : List SObj}, S[id]? = some (.cells [(.str a0.s_), (.int .i64 a0.at_), (.int .i64 a0.left), (.bool a0.fails)]) → evw env 41 [.ptr id 0] S = some ((.agg [(.int .i64 r.2.Kind), (.str r.2.Attr), (.str r.2.Value), (encSl eS r.2.Subs), (encSl e_Api_Filter r.2.Kids)]), S.set id (.cells [(.str r.1.s_), (.int .i64 r.1.at_), (.int .i64 r.1.left), (.bool r.1.fails)]), false) := by
 intro k a0 r h id S0 hS
 unfold F41 at h
 refine evw_recvW (pf := fn41) rfl rfl (Nat.le_of_ble_eq_true rfl) rfl ?_
 refine WB.of (pf := fn41) rfl ?_
 have H := Hp.start1 hS rfl
 refine WC.seqR ?_
 refine WO.alloc' (ti := ty25) rfl rfl rfl rfl H ?_
 intro i1 S hi1 H
 refine WO.nil ?_
 refine WC.seqR ?_
 refine WS (v := .ptr id 0) rfl (nz rfl rfl) ?_
 refine WS (v := .ptr id 0) rfl (nz rfl rfl) ?_
 refine WS (v := .ptr id 1) rfl (nz rfl rfl) ?_
 refine WS (v := .int .i64 a0.at_) rfl (nz rfl (stp_load rfl (H.get 1 rfl) rfl)) ?_
 refine WS (v := .int .i64 a0.at_) rfl (nz rfl rfl) ?_
 refine WO.nil ?_
 refine WC.seq ?_
 refine WC.seqR ?_
 refine WS (v := .ptr id 0) rfl (nz rfl rfl) ?_
 obtain ⟨y2, hy2, h⟩ := bindS h
 refine WS (v := .int .u8 y2) rfl (nz rfl (stp_call (vs := [(.ptr id 0)]) rfl rfl (s40 _ hy2 (H.get 1 rfl)))) ?_
 refine WS (v := .int .u8 y2) rfl (nz rfl rfl) ?_
 refine WO.nil ?_
 obtain ⟨y42, hy42, hOy42⟩ := bindS h
 refine WC.block ?_
 refine l41_L0 hi1 ?_ hy42  (kc rfl (kc rfl (kc rfl (kc rfl known_nil)))) (H.sub (.cons_cons _ (.cons_cons _ .slnil)) .slnil .slnil)
 ·intro σ S  hk H; replace h := hOy42
  refine KX.of_known hk ?_
  refine KX.block_x ?_
  refine KX.seq_n ?_
  refine WC.seq ?_
  refine WC.drawC ?_
  refine WK.step (v := .ptr id 0) rfl (nz rfl rfl) rfl rfl rfl rfl ?_
  refine WK.step (v := .ptr id 0) rfl (nz rfl rfl) rfl rfl rfl rfl ?_
  refine WK.step (v := .ptr id 0) rfl (nz rfl rfl) rfl rfl rfl rfl ?_
  refine WK.load rfl rfl (ld (H.get 1 rfl) rfl) hist_nil ?_
  refine WK.step (v := .int .i64 a0.at_) rfl (nz rfl rfl) rfl rfl rfl rfl ?_
  refine WK.step (v := .ptr id 0) rfl (nz rfl rfl) rfl rfl rfl rfl ?_
  refine WK.step (v := .ptr id 0) rfl (nz rfl rfl) rfl rfl rfl rfl ?_
  refine WK.step (v := .ptr id 1) rfl (nz rfl rfl) rfl rfl rfl rfl ?_
  refine WK.load rfl rfl (ld (H.get 1 rfl) rfl) hist_nil ?_
  refine WK.step (v := (.int .i64 (imin a0.at_ y42.2.at_))) rfl (nz rfl rfl) rfl rfl rfl rfl ?_
  refine WK.step (v := .ptr id 0) rfl (nz rfl rfl) rfl rfl rfl rfl ?_
  refine WK.step (v := .ptr id 0) rfl (nz rfl rfl) rfl rfl rfl rfl ?_
  refine WK.step (v := .ptr id 1) rfl (nz rfl rfl) rfl rfl rfl rfl ?_
  refine WK.load rfl rfl (ld (H.get 1 rfl) rfl) hist_nil ?_
  obtain ⟨z43, hz43, h⟩ := bindS h
  refine WK.step (v := .str z43) rfl (nz rfl (stp_subStr rfl rfl rfl rfl hz43)) rfl rfl rfl rfl ?_
  refine WK.step (v := (.agg [(.int .i64 4), (.str z43), (.str []), .nils, .nils])) rfl (nz rfl (stp_build (ti := ty25) rfl rfl rfl rfl rfl (fill_cons rfl rfl rfl rfl (Nat.le_of_ble_eq_true rfl) rfl (fill_cons rfl rfl rfl rfl (Nat.le_of_ble_eq_true rfl) rfl rfl)))) rfl rfl rfl rfl ?_
  have Hh45 := H
  refine WK.alloc' (ti := ty25) rfl rfl rfl rfl H ?_
  intro i44 S hi44 H
  replace H : Hp S0 [id] _ [(i44, .cells [(.int .i64 0), (.str []), (.str []), .nils, .nils]), (i1, .cells [(.int .i64 0), (.str []), (.str []), .nils, .nils]), (id, .cells [(.str y42.2.s_), (.int .i64 y42.2.at_), (.int .i64 y42.2.left), (.bool y42.2.fails)])] [] [] := H
  refine ⟨(pend_cons (ld (H.get 2 rfl) rfl) (pend_cons (ld (H.get 2 rfl) rfl) (pend_cons (ld (H.get 2 rfl) rfl) pend_nil))), ?_⟩
  refine WK.nil ?_
  refine WO.store 0 rfl rfl H rfl rfl rfl rfl rfl rfl rfl (Nat.le_of_ble_eq_true rfl) rfl (own_e hi44) ?_
  intro S H
  replace H : Hp S0 [id] _ [(i44, .cells [(.int .i64 4), (.str z43), (.str []), .nils, .nils]), (i1, .cells [(.int .i64 0), (.str []), (.str []), .nils, .nils]), (id, .cells [(.str y42.2.s_), (.int .i64 y42.2.at_), (.int .i64 y42.2.left), (.bool y42.2.fails)])] [] [] := H
  refine WO.nil ?_
  refine KX.seq_n ?_
  refine WC.seq ?_
  refine WC.seqR ?_
  refine WS (v := .ptr id 0) rfl (nz rfl rfl) ?_
  obtain ⟨y46, hy46, h⟩ := bindS h
  refine WS (v := .int .u8 y46) rfl (nz rfl (stp_call (vs := [(.ptr id 0)]) rfl rfl (s40 _ hy46 (H.get 2 rfl)))) ?_
  refine WO.nil ?_
  refine WC.block ?_
  refine WC.seqR ?_
  refine WS (v := (.bool (y46 == 62))) rfl (nz rfl rfl) ?_
  refine WS (v := (.bool (y46 == 62))) rfl (nz rfl rfl) ?_
  refine WO.nil ?_
  obtain ⟨y85, hy85, hOy85⟩ := bindS h
  refine WC.join (fun σ' S' e' => ∃ v86, ∃ v87, IsSl eS y85.1.Subs v86 ∧ IsSl e_Api_Filter y85.1.Kids v87 ∧ Known ([(0, (.ptr id 0)), (2, (.ptr i1 0)), (5, (.ptr i44 0))]) σ' ∧ Hp S0 [id] S' [(i44, .cells [(.int .i64 y85.1.Kind), (.str y85.1.Attr), (.str y85.1.Value), v86, v87]), (i1, .cells [(.int .i64 0), (.str []), (.str []), .nils, .nils]), (id, .cells [(.str y85.2.s_), (.int .i64 y85.2.at_), (.int .i64 y85.2.left), (.bool y85.2.fails)])] [] [] ∧ e' = false) ?_ ?_
  ·replace h := hy85
   rcases iteS h with ⟨hc94, h⟩ | ⟨hc94, h⟩
   ·refine WC.condT rfl hc94 ?_
    refine WC.seqR ?_
    refine WS (v := .ptr i44 0) rfl (nz rfl rfl) ?_
    refine WO.store 0 rfl rfl H rfl rfl rfl rfl rfl rfl rfl (Nat.le_of_ble_eq_true rfl) rfl (own_e hi44) ?_
    intro S H
    replace H : Hp S0 [id] _ [(i44, .cells [(.int .i64 5), (.str z43), (.str []), .nils, .nils]), (i1, .cells [(.int .i64 0), (.str []), (.str []), .nils, .nils]), (id, .cells [(.str y42.2.s_), (.int .i64 y42.2.at_), (.int .i64 y42.2.left), (.bool y42.2.fails)])] [] [] := H
    refine WO.nil ?_
    refine WC.region ?_
    refine WS (v := .ptr id 0) rfl (nz rfl rfl) ?_
    refine WS (v := .ptr id 0) rfl (nz rfl rfl) ?_
    refine WS (v := .ptr id 1) rfl (nz rfl rfl) ?_
    refine WS (v := .int .i64 y42.2.at_) rfl (nz rfl (stp_load rfl (H.get 2 rfl) rfl)) ?_
    refine WS (v := (.int .i64 (ad .i64 y42.2.at_ 1))) rfl (nz rfl rfl) ?_
    refine WS (v := .ptr id 0) rfl (nz rfl rfl) ?_
    refine WS (v := .ptr id 1) rfl (nz rfl rfl) ?_
    refine WO.store 2 rfl rfl H rfl rfl rfl rfl rfl rfl rfl (Nat.le_of_ble_eq_true rfl) rfl (clean_e rfl) ?_
    intro S H
    replace H : Hp S0 [id] _ [(i44, .cells [(.int .i64 5), (.str z43), (.str []), .nils, .nils]), (i1, .cells [(.int .i64 0), (.str []), (.str []), .nils, .nils]), (id, .cells [(.str y42.2.s_), (.int .i64 (ad .i64 y42.2.at_ 1)), (.int .i64 y42.2.left), (.bool y42.2.fails)])] [] [] := H
    refine WO.nil ?_
    refine KX.seq_n ?_
    obtain rfl := Option.some.inj h
    exact ⟨.nils, .nils, (isSl_nil _), (isSl_nil _), (kc rfl (kc rfl (kc rfl known_nil))), (H.sub (.cons_cons _ (.cons_cons _ (.cons_cons _ .slnil))) .slnil .slnil), rfl⟩
   ·refine WC.condF rfl hc94 ?_
    refine WC.seqR ?_
    refine WS (v := (.bool (y46 == 60))) rfl (nz rfl rfl) ?_
    refine WS (v := (.bool (y46 == 60))) rfl (nz rfl rfl) ?_
    refine WO.nil ?_
    obtain ⟨y90, hy90, hOy90⟩ := bindS h
    refine WC.join (fun σ' S' e' => ∃ v91, ∃ v92, IsSl eS y90.1.Subs v91 ∧ IsSl e_Api_Filter y90.1.Kids v92 ∧ Known ([(0, (.ptr id 0)), (2, (.ptr i1 0)), (5, (.ptr i44 0))]) σ' ∧ Hp S0 [id] S' [(i44, .cells [(.int .i64 y90.1.Kind), (.str y90.1.Attr), (.str y90.1.Value), v91, v92]), (i1, .cells [(.int .i64 0), (.str []), (.str []), .nils, .nils]), (id, .cells [(.str y90.2.s_), (.int .i64 y90.2.at_), (.int .i64 y90.2.left), (.bool y90.2.fails)])] [] [] ∧ e' = false) ?_ ?_
    ·replace h := hy90
     rcases iteS h with ⟨hc93, h⟩ | ⟨hc93, h⟩
     ·refine WC.condT rfl hc93 ?_
      refine WC.seqR ?_
      refine WS (v := .ptr i44 0) rfl (nz rfl rfl) ?_
      refine WO.store 0 rfl rfl H rfl rfl rfl rfl rfl rfl rfl (Nat.le_of_ble_eq_true rfl) rfl (own_e hi44) ?_
      intro S H
      replace H : Hp S0 [id] _ [(i44, .cells [(.int .i64 6), (.str z43), (.str []), .nils, .nils]), (i1, .cells [(.int .i64 0), (.str []), (.str []), .nils, .nils]), (id, .cells [(.str y42.2.s_), (.int .i64 y42.2.at_), (.int .i64 y42.2.left), (.bool y42.2.fails)])] [] [] := H
      refine WO.nil ?_
      refine WC.region ?_
      refine WS (v := .ptr id 0) rfl (nz rfl rfl) ?_
      refine WS (v := .ptr id 0) rfl (nz rfl rfl) ?_
      refine WS (v := .ptr id 1) rfl (nz rfl rfl) ?_
      refine WS (v := .int .i64 y42.2.at_) rfl (nz rfl (stp_load rfl (H.get 2 rfl) rfl)) ?_
      refine WS (v := (.int .i64 (ad .i64 y42.2.at_ 1))) rfl (nz rfl rfl) ?_
      refine WS (v := .ptr id 0) rfl (nz rfl rfl) ?_
      refine WS (v := .ptr id 1) rfl (nz rfl rfl) ?_
      refine WO.store 2 rfl rfl H rfl rfl rfl rfl rfl rfl rfl (Nat.le_of_ble_eq_true rfl) rfl (clean_e rfl) ?_
      intro S H
      replace H : Hp S0 [id] _ [(i44, .cells [(.int .i64 6), (.str z43), (.str []), .nils, .nils]), (i1, .cells [(.int .i64 0), (.str []), (.str []), .nils, .nils]), (id, .cells [(.str y42.2.s_), (.int .i64 (ad .i64 y42.2.at_ 1)), (.int .i64 y42.2.left), (.bool y42.2.fails)])] [] [] := H
      refine WO.nil ?_
      refine KX.seq_n ?_
      obtain rfl := Option.some.inj h
      exact ⟨.nils, .nils, (isSl_nil _), (isSl_nil _), (kc rfl (kc rfl (kc rfl known_nil))), (H.sub (.cons_cons _ (.cons_cons _ (.cons_cons _ .slnil))) .slnil .slnil), rfl⟩
     ·refine WC.condF rfl hc93 ?_
      refine WC.skip ?_
      refine KX.seq_n ?_
      obtain rfl := Option.some.inj h
      exact ⟨.nils, .nils, (isSl_nil _), (isSl_nil _), (kc rfl (kc rfl (kc rfl known_nil))), (H.sub (.cons_cons _ (.cons_cons _ (.cons_cons _ .slnil))) .slnil .slnil), rfl⟩
    ·rintro σ S e ⟨v91, v92, hv91, hv92, hk, H, rfl⟩
     replace h := hOy90
     refine KX.of_known hk ?_
     refine KX.seq_n ?_
     obtain rfl := Option.some.inj h
     exact ⟨v91, v92, hv91, hv92, (kc rfl (kc rfl (kc rfl known_nil))), (H.sub (.cons_cons _ (.cons_cons _ (.cons_cons _ .slnil))) .slnil .slnil), rfl⟩
  ·rintro σ S e ⟨v86, v87, hv86, hv87, hk, H, rfl⟩
   replace h := hOy85
   refine KX.of_known hk ?_
   refine KX.block_n ?_
   refine KX.seq_n ?_
   refine WC.seqR ?_
   refine WS (v := .ptr id 0) rfl (nz rfl rfl) ?_
   obtain ⟨y95, hy95, h⟩ := bindS h
   refine WO.callR 2 rfl rfl rfl rfl H rfl (s39 _ hy95 (H.get 2 rfl)) ?_
   intro S H
   replace H : Hp S0 [id] _ [(i44, .cells [(.int .i64 y85.1.Kind), (.str y85.1.Attr), (.str y85.1.Value), v86, v87]), (i1, .cells [(.int .i64 0), (.str []), (.str []), .nils, .nils]), (id, .cells [(.str y95.s_), (.int .i64 y95.at_), (.int .i64 y95.left), (.bool y95.fails)])] [] [] := H
   refine WO.nil ?_
   refine WC.seqR ?_
   refine WS (v := .ptr id 0) rfl (nz rfl rfl) ?_
   obtain ⟨y96, hy96, h⟩ := bindS h
   refine WO.callR 2 rfl rfl rfl rfl H rfl (s46 _ hy96 (H.get 2 rfl)) ?_
   intro S H
   replace H : Hp S0 [id] _ [(i44, .cells [(.int .i64 y85.1.Kind), (.str y85.1.Attr), (.str y85.1.Value), v86, v87]), (i1, .cells [(.int .i64 0), (.str []), (.str []), .nils, .nils]), (id, .cells [(.str y96.1.s_), (.int .i64 y96.1.at_), (.int .i64 y96.1.left), (.bool y96.1.fails)])] [] [] := H
   refine WS (v := .ptr i44 2) rfl (nz rfl rfl) ?_
   refine WO.store 0 rfl rfl H rfl rfl rfl rfl rfl rfl rfl (Nat.le_of_ble_eq_true rfl) rfl (own_e hi44) ?_
   intro S H
   replace H : Hp S0 [id] _ [(i44, .cells [(.int .i64 y85.1.Kind), (.str y85.1.Attr), (.str y96.2), v86, v87]), (i1, .cells [(.int .i64 0), (.str []), (.str []), .nils, .nils]), (id, .cells [(.str y96.1.s_), (.int .i64 y96.1.at_), (.int .i64 y96.1.left), (.bool y96.1.fails)])] [] [] := H
   refine WO.nil ?_
   refine WC.seq ?_
   refine WC.seqR ?_
   refine WS (v := .ptr i44 0) rfl (nz rfl rfl) ?_
   refine WS (v := .int .i64 y85.1.Kind) rfl (nz rfl (stp_load rfl (H.get 0 rfl) rfl)) ?_
   refine WS (v := (.bool (y85.1.Kind != 4))) rfl (nz rfl rfl) ?_
   refine WS (v := (.bool (y85.1.Kind != 4))) rfl (nz rfl rfl) ?_
   obtain ⟨y101, hy101, hOy101⟩ := bindS h
   refine WO.split 4 (fun σ' S' e' => Known ([(0, (.ptr id 0)), (2, (.ptr i1 0)), (5, (.ptr i44 0)), (89, (.bool y101))]) σ' ∧ Hp S0 [id] S' [(i44, .cells [(.int .i64 y85.1.Kind), (.str y85.1.Attr), (.str y96.2), v86, v87]), (i1, .cells [(.int .i64 0), (.str []), (.str []), .nils, .nils]), (id, .cells [(.str y96.1.s_), (.int .i64 y96.1.at_), (.int .i64 y96.1.left), (.bool y96.1.fails)])] [] [] ∧ e' = false) ?_ ?_
   ·replace h := hy101
    revert H
    cases hc103 : (y85.1.Kind != 4)
    ·intro H
     replace h := iteF h hc103
     refine WO.go0 rfl rfl ?_
     refine WS (v := .ptr id 0) rfl (nz rfl rfl) ?_
     refine WO.go0 rfl rfl ?_
     obtain ⟨y102, hy102, h⟩ := bindS h
     refine WS (v := .int .u8 y102) rfl (nz rfl (stp_call (vs := [(.ptr id 0)]) rfl rfl (s40 _ hy102 (H.get 2 rfl)))) ?_
     refine WO.go0 rfl rfl ?_
     refine WS (v := (.bool (y102 != 42))) rfl (nz rfl rfl) ?_
     refine WS (v := (.bool (y102 != 42))) rfl (nz rfl rfl) ?_
     refine WO.nil ?_
     obtain rfl := Option.some.inj h
     exact ⟨(kc rfl (kc rfl (kc rfl (kc rfl known_nil)))), (H.sub (.cons_cons _ (.cons_cons _ (.cons_cons _ .slnil))) .slnil .slnil), rfl⟩
    ·intro H
     replace h := iteT h hc103
     refine WO.by rfl rfl rfl ?_
     refine WO.by rfl rfl rfl ?_
     refine WO.by rfl rfl rfl ?_
     refine WS (v := .bool true) rfl (nz rfl rfl) ?_
     refine WO.nil ?_
     obtain rfl := Option.some.inj h
     exact ⟨(kc rfl (kc rfl (kc rfl (kc rfl known_nil)))), (H.sub (.cons_cons _ (.cons_cons _ (.cons_cons _ .slnil))) .slnil .slnil), rfl⟩
   ·rintro σ S e ⟨hk, H, rfl⟩
    replace h := hOy101
    refine WO.of_known hk ?_
    refine WO.nil ?_
    rcases iteS h with ⟨hc195, h⟩ | ⟨hc195, h⟩
    ·refine WC.condT rfl hc195 ?_
     refine WC.seqR ?_
     refine WS (v := (.agg [(.int .i64 y85.1.Kind), (.str y85.1.Attr), (.str y96.2), v86, v87])) rfl (nz rfl (stp_load rfl (H.get 0 rfl) rfl)) ?_
     refine WO.store 1 rfl rfl H rfl rfl rfl rfl rfl rfl rfl (Nat.le_of_ble_eq_true rfl) rfl (own_e hi1) ?_
     intro S H
     replace H : Hp S0 [id] _ [(i44, .cells [(.int .i64 y85.1.Kind), (.str y85.1.Attr), (.str y96.2), v86, v87]), (i1, .cells [(.int .i64 y85.1.Kind), (.str y85.1.Attr), (.str y96.2), v86, v87]), (id, .cells [(.str y96.1.s_), (.int .i64 y96.1.at_), (.int .i64 y96.1.left), (.bool y96.1.fails)])] [] [] := H
     refine WO.nil ?_
     refine WC.ret ?_
     refine KX.seq_r ?_
     obtain rfl := Option.some.inj h
     refine KB.ret (vs := [(.agg [(.int .i64 y85.1.Kind), (.str y85.1.Attr), (.str y96.2), v86, v87])]) (res_cell rfl (H.get 1 rfl) rfl res_nil) (fl_cons' rfl rfl) ?_
     exact leave_hp hS H 2 rfl (by simp only [st_tup, List.map_cons, List.map_nil, tupled, st_agg, st1_int, st1_str, hv86.strip1, hv87.strip1, e_Api_Filter_eq]) (by simp [PV.clean, cleanL, clean_encSl clean_Api_Filter, clean_encSl clean_eS])
    ·refine WC.condF rfl hc195 ?_
     refine WC.skip ?_
     refine KX.seq_n ?_
     refine WC.seqR ?_
     refine WS (v := .ptr i44 2) rfl (nz rfl rfl) ?_
     refine WS (v := .str y96.2) rfl (nz rfl (stp_load rfl (H.get 0 rfl) rfl)) ?_
     refine WS rfl (nz rfl (stp_buildSlice (ys := [y96.2]) (f := eS) (parts := [(0, (.str y96.2))]) rfl rfl rfl rfl rfl rfl (fc ⟨rfl, rfl⟩ (fun p hp => nomatch hp)) rfl)) ?_
     have hv105 : IsSl eS (some [y96.2]) _ := ⟨.full, rfl⟩
     refine WS (v := .ptr i44 3) rfl (nz rfl rfl) ?_
     refine WO.store 0 rfl (fz_tmp' hv105.frz rfl) H rfl rfl rfl rfl hv105.one.1 hv105.one.2 rfl (Nat.le_of_ble_eq_true rfl) rfl (own_e hi44) ?_
     intro S H
     replace H : Hp S0 [id] _ [(i44, .cells [(.int .i64 y85.1.Kind), (.str y85.1.Attr), (.str y96.2), (.lst (List.map eS [y96.2]) .full), v87]), (i1, .cells [(.int .i64 0), (.str []), (.str []), .nils, .nils]), (id, .cells [(.str y96.1.s_), (.int .i64 y96.1.at_), (.int .i64 y96.1.left), (.bool y96.1.fails)])] [] [] := H
     refine WS (v := .ptr i44 2) rfl (nz rfl rfl) ?_
     refine WO.store 0 rfl rfl H rfl rfl rfl rfl rfl rfl rfl (Nat.le_of_ble_eq_true rfl) rfl (own_e hi44) ?_
     intro S H
     replace H : Hp S0 [id] _ [(i44, .cells [(.int .i64 y85.1.Kind), (.str y85.1.Attr), (.str []), (.lst (List.map eS [y96.2]) .full), v87]), (i1, .cells [(.int .i64 0), (.str []), (.str []), .nils, .nils]), (id, .cells [(.str y96.1.s_), (.int .i64 y96.1.at_), (.int .i64 y96.1.left), (.bool y96.1.fails)])] [] [] := H
     refine WO.nil ?_
     refine WC.seq ?_
     obtain ⟨y172, hy172, hOy172⟩ := bindS h
     refine WC.block ?_
     have H := H.addFull (List.map eS [y96.2]) 1 (sized_map (f := eS) (fun _ => rfl) _)
     refine l41_L3 hi44 hi1 ?_ hy172 (.lst (List.map eS [y96.2]) .full) (hv105) v87 (hv87) (kc rfl (kc rfl (kc rfl known_nil))) (H.sub (.cons_cons _ (.cons_cons _ (.cons_cons _ .slnil))) (.cons_cons _ .slnil) .slnil)
     ·intro σ S v173 hv173 v174 hv174 hk H; replace h := hOy172
      refine KX.of_known hk ?_
      refine KX.block_x ?_
      refine KX.seq_n ?_
      refine WC.seq ?_
      refine WC.seqR ?_
      refine WS (v := .ptr i44 0) rfl (nz rfl rfl) ?_
      refine WO.store 0 rfl rfl H rfl rfl rfl rfl rfl rfl rfl (Nat.le_of_ble_eq_true rfl) rfl (own_e hi44) ?_
      intro S H
      replace H : Hp S0 [id] _ [(i44, .cells [(.int .i64 8), (.str y172.1.Attr), (.str y172.1.Value), v173, v174]), (i1, .cells [(.int .i64 0), (.str []), (.str []), .nils, .nils]), (id, .cells [(.str y172.2.s_), (.int .i64 y172.2.at_), (.int .i64 y172.2.left), (.bool y172.2.fails)])] [(v173, 1)] [] := H
      refine WO.nil ?_
      refine WC.seqR ?_
      refine WS (v := .ptr i44 3) rfl (nz rfl rfl) ?_
      refine WS (v := v173) rfl (nz rfl (stp_load rfl (H.get 0 rfl) rfl)) ?_
      refine WS (v := (.int .i64 (Sl.len y172.1.Subs))) rfl (nz rfl (stp_len rfl hv173 rfl)) ?_
      refine WS (v := (.bool ((Sl.len y172.1.Subs) == 2))) rfl (nz rfl rfl) ?_
      refine WS (v := (.bool ((Sl.len y172.1.Subs) == 2))) rfl (nz rfl rfl) ?_
      obtain ⟨y179, hy179, hOy179⟩ := bindS h
      refine WO.split 6 (fun σ' S' e' => Known ([(2, (.ptr i1 0)), (5, (.ptr i44 0)), (124, (.bool y179))]) σ' ∧ Hp S0 [id] S' [(i44, .cells [(.int .i64 8), (.str y172.1.Attr), (.str y172.1.Value), v173, v174]), (i1, .cells [(.int .i64 0), (.str []), (.str []), .nils, .nils]), (id, .cells [(.str y172.2.s_), (.int .i64 y172.2.at_), (.int .i64 y172.2.left), (.bool y172.2.fails)])] [(v173, 1)] [] ∧ e' = false) ?_ ?_
      ·replace h := hy179
       revert H
       cases hc181 : ((Sl.len y172.1.Subs) == 2)
       ·intro H
        replace h := iteF h hc181
        refine WO.by rfl rfl rfl ?_
        refine WO.by rfl rfl rfl ?_
        refine WO.by rfl rfl rfl ?_
        refine WO.by rfl rfl rfl ?_
        refine WO.by rfl rfl rfl ?_
        refine WS (v := .bool false) rfl (nz rfl rfl) ?_
        refine WO.nil ?_
        obtain rfl := Option.some.inj h
        exact ⟨(kc rfl (kc rfl (kc rfl known_nil))), (H.sub (.cons_cons _ (.cons_cons _ (.cons_cons _ .slnil))) (.cons_cons _ .slnil) .slnil), rfl⟩
       ·intro H
        replace h := iteT h hc181
        refine WO.go0 rfl rfl ?_
        refine WS (v := .ptr i44 3) rfl (nz rfl rfl) ?_
        refine WO.go0 rfl rfl ?_
        refine WS (v := v173) rfl (nz rfl (stp_load rfl (H.get 0 rfl) rfl)) ?_
        refine WO.go0 rfl rfl ?_
        obtain ⟨y180, hy180, h⟩ := bindS h
        refine WS (v := (.iptr [(.str y180)] 0)) rfl (nz rfl (stp_idxAddr rfl hv173 rfl rfl rfl hy180 rfl rfl)) ?_
        refine WO.go0 rfl rfl ?_
        refine WS (v := .str y180) rfl (nz rfl rfl) ?_
        refine WO.go0 rfl rfl ?_
        refine WS (v := (.bool (y180 == []))) rfl (nz rfl rfl) ?_
        refine WS (v := (.bool (y180 == []))) rfl (nz rfl rfl) ?_
        refine WO.nil ?_
        obtain rfl := Option.some.inj h
        exact ⟨(kc rfl (kc rfl (kc rfl known_nil))), (H.sub (.cons_cons _ (.cons_cons _ (.cons_cons _ .slnil))) (.cons_cons _ .slnil) .slnil), rfl⟩
      ·rintro σ S e ⟨hk, H, rfl⟩
       replace h := hOy179
       refine WO.of_known hk ?_
       refine WS (v := .bool y179) rfl (nz rfl rfl) ?_
       obtain ⟨y186, hy186, hOy186⟩ := bindS h
       refine WO.split 6 (fun σ' S' e' => Known ([(2, (.ptr i1 0)), (5, (.ptr i44 0)), (131, (.bool y186))]) σ' ∧ Hp S0 [id] S' [(i44, .cells [(.int .i64 8), (.str y172.1.Attr), (.str y172.1.Value), v173, v174]), (i1, .cells [(.int .i64 0), (.str []), (.str []), .nils, .nils]), (id, .cells [(.str y172.2.s_), (.int .i64 y172.2.at_), (.int .i64 y172.2.left), (.bool y172.2.fails)])] [(v173, 1)] [] ∧ e' = false) ?_ ?_
       ·replace h := hy186
        revert H
        cases hc188 : y179
        ·intro H
         replace h := iteF h hc188
         refine WO.by rfl rfl rfl ?_
         refine WO.by rfl rfl rfl ?_
         refine WO.by rfl rfl rfl ?_
         refine WO.by rfl rfl rfl ?_
         refine WO.by rfl rfl rfl ?_
         refine WS (v := .bool false) rfl (nz rfl rfl) ?_
         refine WO.nil ?_
         obtain rfl := Option.some.inj h
         exact ⟨(kc rfl (kc rfl (kc rfl known_nil))), (H.sub (.cons_cons _ (.cons_cons _ (.cons_cons _ .slnil))) (.cons_cons _ .slnil) .slnil), rfl⟩
        ·intro H
         replace h := iteT h hc188
         refine WO.go0 rfl rfl ?_
         refine WS (v := .ptr i44 3) rfl (nz rfl rfl) ?_
         refine WO.go0 rfl rfl ?_
         refine WS (v := v173) rfl (nz rfl (stp_load rfl (H.get 0 rfl) rfl)) ?_
         refine WO.go0 rfl rfl ?_
         obtain ⟨y187, hy187, h⟩ := bindS h
         refine WS (v := (.iptr [(.str y187)] 0)) rfl (nz rfl (stp_idxAddr rfl hv173 rfl rfl rfl hy187 rfl rfl)) ?_
         refine WO.go0 rfl rfl ?_
         refine WS (v := .str y187) rfl (nz rfl rfl) ?_
         refine WO.go0 rfl rfl ?_
         refine WS (v := (.bool (y187 == []))) rfl (nz rfl rfl) ?_
         refine WS (v := (.bool (y187 == []))) rfl (nz rfl rfl) ?_
         refine WO.nil ?_
         obtain rfl := Option.some.inj h
         exact ⟨(kc rfl (kc rfl (kc rfl known_nil))), (H.sub (.cons_cons _ (.cons_cons _ (.cons_cons _ .slnil))) (.cons_cons _ .slnil) .slnil), rfl⟩
       ·rintro σ S e ⟨hk, H, rfl⟩
        replace h := hOy186
        refine WO.of_known hk ?_
        refine WO.nil ?_
        obtain ⟨y191, hy191, hOy191⟩ := bindS h
        refine WC.join (fun σ' S' e' => ∃ v192, ∃ v193, IsSl eS y191.Subs v192 ∧ IsSl e_Api_Filter y191.Kids v193 ∧ Known ([(2, (.ptr i1 0)), (5, (.ptr i44 0))]) σ' ∧ Hp S0 [id] S' [(i44, .cells [(.int .i64 y191.Kind), (.str y191.Attr), (.str y191.Value), v192, v193]), (i1, .cells [(.int .i64 0), (.str []), (.str []), .nils, .nils]), (id, .cells [(.str y172.2.s_), (.int .i64 y172.2.at_), (.int .i64 y172.2.left), (.bool y172.2.fails)])] [(v173, 1)] [] ∧ e' = false) ?_ ?_
        ·replace h := hy191
         rcases iteS h with ⟨hc194, h⟩ | ⟨hc194, h⟩
         ·refine WC.condT rfl hc194 ?_
          refine WC.region ?_
          refine WS (v := .ptr i44 0) rfl (nz rfl rfl) ?_
          refine WO.store 0 rfl rfl H rfl rfl rfl rfl rfl rfl rfl (Nat.le_of_ble_eq_true rfl) rfl (own_e hi44) ?_
          intro S H
          replace H : Hp S0 [id] _ [(i44, .cells [(.int .i64 7), (.str y172.1.Attr), (.str y172.1.Value), v173, v174]), (i1, .cells [(.int .i64 0), (.str []), (.str []), .nils, .nils]), (id, .cells [(.str y172.2.s_), (.int .i64 y172.2.at_), (.int .i64 y172.2.left), (.bool y172.2.fails)])] [(v173, 1)] [] := H
          refine WS (v := .ptr i44 3) rfl (nz rfl rfl) ?_
          refine WO.store 0 rfl rfl H rfl rfl rfl rfl rfl rfl rfl (Nat.le_of_ble_eq_true rfl) rfl (own_e hi44) ?_
          intro S H
          replace H : Hp S0 [id] _ [(i44, .cells [(.int .i64 7), (.str y172.1.Attr), (.str y172.1.Value), .nils, v174]), (i1, .cells [(.int .i64 0), (.str []), (.str []), .nils, .nils]), (id, .cells [(.str y172.2.s_), (.int .i64 y172.2.at_), (.int .i64 y172.2.left), (.bool y172.2.fails)])] [(v173, 1)] [] := H
          refine WO.nil ?_
          refine KX.seq_n ?_
          obtain rfl := Option.some.inj h
          exact ⟨.nils, v174, (isSl_nil _), hv174, (kc rfl (kc rfl known_nil)), (H.sub (.cons_cons _ (.cons_cons _ (.cons_cons _ .slnil))) (.cons_cons _ .slnil) .slnil), rfl⟩
         ·refine WC.condF rfl hc194 ?_
          refine WC.skip ?_
          refine KX.seq_n ?_
          obtain rfl := Option.some.inj h
          exact ⟨v173, v174, hv173, hv174, (kc rfl (kc rfl known_nil)), (H.sub (.cons_cons _ (.cons_cons _ (.cons_cons _ .slnil))) (.cons_cons _ .slnil) .slnil), rfl⟩
        ·rintro σ S e ⟨v192, v193, hv192, hv193, hk, H, rfl⟩
         replace h := hOy191
         refine KX.of_known hk ?_
         refine KX.seq_n ?_
         refine WC.seqR ?_
         refine WS (v := (.agg [(.int .i64 y191.Kind), (.str y191.Attr), (.str y191.Value), v192, v193])) rfl (nz rfl (stp_load rfl (H.get 0 rfl) rfl)) ?_
         refine WO.store 1 rfl rfl H rfl rfl rfl rfl rfl rfl rfl (Nat.le_of_ble_eq_true rfl) rfl (own_e hi1) ?_
         intro S H
         replace H : Hp S0 [id] _ [(i44, .cells [(.int .i64 y191.Kind), (.str y191.Attr), (.str y191.Value), v192, v193]), (i1, .cells [(.int .i64 y191.Kind), (.str y191.Attr), (.str y191.Value), v192, v193]), (id, .cells [(.str y172.2.s_), (.int .i64 y172.2.at_), (.int .i64 y172.2.left), (.bool y172.2.fails)])] [(v173, 1)] [] := H
         refine WO.nil ?_
         refine WC.ret ?_
         obtain rfl := Option.some.inj h
         refine KB.ret (vs := [(.agg [(.int .i64 y191.Kind), (.str y191.Attr), (.str y191.Value), v192, v193])]) (res_cell rfl (H.get 1 rfl) rfl res_nil) (fl_cons' rfl rfl) ?_
         exact leave_hp hS H 2 rfl (by simp only [st_tup, List.map_cons, List.map_nil, tupled, st_agg, st1_int, st1_str, hv192.strip1, hv193.strip1, e_Api_Filter_eq]) (by simp [PV.clean, cleanL, clean_encSl clean_Api_Filter, clean_encSl clean_eS])
end Go.Proofs.Ythkjepoaddfoiaa.M
