/- Part of the proof: the runs of functions on the abstract machine. -/
import Derived.Test.YthkjepoaddfoiaaPamM4
import Derived.Test.YthkjepoaddfoiaaFns
import Derived.Test.YthkjepoaddfoiaaFDe
import Derived.Test.YthkjepoaddfoiaaFDc
namespace Go.Proofs.Ythkjepoaddfoiaa.M
open Go Go.Pam Go.RowKit Go.WideShapes
set_option maxRecDepth 4000
set_option linter.unusedVariables false
set_option linter.unusedSimpArgs false

def F28_L1 (rc0 : Filter_reader → Option (Filter_reader × Api_Filter)) (k : Nat) (a410 : Api_Filter) : Nat → Api_Filter → Filter_reader → Option (Api_Filter × Filter_reader)
 | 0, _, _ => none
 | n + 1, b407, b411 =>
  Option.bind (F40 k b411 ) fun y412 =>
  if y412 == 40 then
  Option.bind (rc0 b411 ) fun y419 =>
  Option.bind (Sl.app? 88 b407.Kids (Sl.l (some [y419.2]))) fun z422 =>
  F28_L1 rc0 k a410 n (Api_Filter.mk b407.Kind b407.Attr b407.Value b407.Subs z422) y419.1
  else
  some (b407, b411)
def F28 : Nat → Filter_reader → Option (Filter_reader × Api_Filter)
 | 0, _ => none
 | k + 1, a0 =>
  Option.bind (if decide ((sb .i64 a0.left 1) < 0) then
  some (Filter_reader.mk a0.s_ a0.at_ (sb .i64 a0.left 1) true)
  else
  some (Filter_reader.mk a0.s_ a0.at_ (sb .i64 a0.left 1) a0.fails)) fun y4 =>
  Option.bind (F39 k y4 40) fun y6 =>
  Option.bind (F40 k y6 ) fun y8 =>
  Option.bind (if y8 == 38 then
  some ((Api_Filter.mk 1 [] [] none none), y6)
  else
  Option.bind (if y8 == 124 then
  some ((Api_Filter.mk 2 [] [] none none), y6)
  else
  Option.bind (if y8 == 33 then
  some ((Api_Filter.mk 3 [] [] none none), y6)
  else
  Option.bind (F41 k y6 ) fun y215 =>
  some (y215.2, y215.1)) fun y212 =>
  some (y212.1, y212.2)) fun y205 =>
  some (y205.1, y205.2)) fun y182 =>
  Option.bind (F25 k y182.1.Kind) fun y219 =>
  Option.bind (if y219 then
  nilThen (y182.1.Kids) (
  Option.bind (F28_L1 (F28 k) k (Api_Filter.mk 0 [] [] none none) k y182.1 (Filter_reader.mk y182.2.s_ (ad .i64 y182.2.at_ 1) y182.2.left y182.2.fails)) fun y427 =>
  some (y427.1, y427.2))
  else
  some (y182.1, y182.2)) fun y358 =>
  Option.bind (F39 k y358.2 41) fun y432 =>
  some (y432, y358.1)
theorem l28_L1 {rc0 : Filter_reader → Option (Filter_reader × Api_Filter)} (hrc0 : ∀ {a0 : Filter_reader} {r : Filter_reader × Api_Filter}, rc0 a0 = some r → ∀ {id : Nat} {S : List SObj}, S[id]? = some (.cells [(.str a0.s_), (.int .i64 a0.at_), (.int .i64 a0.left), (.bool a0.fails)]) → evw env 28 [.ptr id 0] S = some ((.agg [(.int .i64 r.2.Kind), (.str r.2.Attr), (.str r.2.Value), (encSl eS r.2.Subs), (encSl e_Api_Filter r.2.Kids)]), S.set id (.cells [(.str r.1.s_), (.int .i64 r.1.at_), (.int .i64 r.1.left), (.bool r.1.fails)]), false)) {k : Nat} {a410 : Api_Filter} {S0 : List SObj} {R : List Nat} {K : KX} {i7 : Nat} {i1 : Nat} {id : Nat} (hi7 : S0.length ≤ i7) (hi1 : S0.length ≤ i1)  {o : (Api_Filter × Filter_reader)}
  (hbrk : ∀ {σ' : Nat → PV} {S' : List SObj}, ∀ (v425 : PV) (_ : IsSl eS o.1.Subs v425), ∀ (v426 : PV) (_ : IsSl e_Api_Filter o.1.Kids v426), Known [(0, (.ptr id 0)), (2, (.ptr i1 0)), (3, (.ptr i7 0))] σ' → Hp S0 R S' [(i7, .cells [(.int .i64 o.1.Kind), (.str o.1.Attr), (.str o.1.Value), v425, v426]), (i1, .cells [(.int .i64 a410.Kind), (.str a410.Attr), (.str a410.Value), .nils, .nils]), (id, .cells [(.str o.2.s_), (.int .i64 o.2.at_), (.int .i64 o.2.left), (.bool o.2.fails)])] [(v426, 5)] [] → K (.exit 1) σ' S' false) :
  ∀ {n : Nat} {b407 : Api_Filter} {b411 : Filter_reader}, F28_L1 rc0 k a410 n b407 b411 = some o → ∀ {σ : Nat → PV} {S : List SObj}, ∀ (v408 : PV) (_ : IsSl eS b407.Subs v408), ∀ (v409 : PV) (_ : IsSl e_Api_Filter b407.Kids v409), Known [(0, (.ptr id 0)), (2, (.ptr i1 0)), (3, (.ptr i7 0))] σ → Hp S0 R S [(i7, .cells [(.int .i64 b407.Kind), (.str b407.Attr), (.str b407.Value), v408, v409]), (i1, .cells [(.int .i64 a410.Kind), (.str a410.Attr), (.str a410.Value), .nils, .nils]), (id, .cells [(.str b411.s_), (.int .i64 b411.at_), (.int .i64 b411.left), (.bool b411.fails)])] [(v409, 5)] [] → WC env ⟨57, S0.length⟩ (.loop pc28L1) σ S false K := by
 intro n
 induction n with
 | zero => intro _ _ h; cases h
 | succ n ih =>
  intro b407 b411 h σ S v408 hv408 v409 hv409 hk H
  rw [F28_L1] at h
  refine WC.loop ?_
  refine WC.of_known hk ?_
  refine WC.seq ?_
  refine WC.seqR ?_
  refine WS (v := .ptr id 0) rfl (nz rfl rfl) ?_
  obtain ⟨y412, hy412, h⟩ := bindS h
  refine WS (v := .int .u8 y412) rfl (nz rfl (stp_call (vs := [(.ptr id 0)]) rfl rfl (s40 _ hy412 (H.get 2 rfl)))) ?_
  refine WS (v := (.bool (y412 == 40))) rfl (nz rfl rfl) ?_
  refine WO.nil ?_
  rcases iteS h with ⟨hc424, h⟩ | ⟨hc424, h⟩
  ·refine WC.condT rfl hc424 ?_
   refine WC.skip ?_
   refine KX.seq_n ?_
   refine WC.block ?_
   refine WC.drawC ?_
   refine WK.step (v := .ptr i7 4) rfl (nz rfl rfl) rfl rfl rfl rfl ?_
   refine WK.load rfl rfl (ld (H.get 0 rfl) rfl) hist_nil ?_
   refine WK.step (v := .ptr id 0) rfl (nz rfl rfl) rfl rfl rfl rfl ?_
   obtain ⟨y419, hy419, h⟩ := bindS h
   have Hh420 := H
   refine WK.callR 2 rfl rfl rfl rfl H rfl (hrc0 hy419 (H.get 2 rfl)) ?_
   intro S H
   replace H : Hp S0 R _ [(i7, .cells [(.int .i64 b407.Kind), (.str b407.Attr), (.str b407.Value), v408, v409]), (i1, .cells [(.int .i64 a410.Kind), (.str a410.Attr), (.str a410.Value), .nils, .nils]), (id, .cells [(.str y419.1.s_), (.int .i64 y419.1.at_), (.int .i64 y419.1.left), (.bool y419.1.fails)])] [(v409, 5)] [] := H
   refine ⟨(pend_cons (ld (H.get 0 rfl) rfl) pend_nil), ?_⟩
   refine WK.step rfl (nz rfl (stp_buildSlice (ys := [y419.2]) (f := e_Api_Filter) (parts := [(0, (.agg [(.int .i64 y419.2.Kind), (.str y419.2.Attr), (.str y419.2.Value), (encSl eS y419.2.Subs), (encSl e_Api_Filter y419.2.Kids)]))]) rfl rfl rfl rfl rfl (by simp only [st_agg, List.map_cons, List.map_nil, st1_int, st1_str, strip1_enc, e_Api_Filter_eq, tupled]) (fc ⟨rfl, rfl⟩ (fun p hp => nomatch hp)) rfl)) rfl rfl rfl rfl ?_
   have hv421 : IsSl e_Api_Filter (some [y419.2]) _ := ⟨.full, rfl⟩
   refine WK.nil ?_
   obtain ⟨z422, hz422, h⟩ := bindS h
   refine WO.ex rfl (nzx (fz_tmp' hv421.frz rfl) (stp_app (f := e_Api_Filter) (ei := ty25) H 0 rfl rfl hv409 rfl hv421 rfl rfl rfl rfl (fun a => (e_Api_Filter_one a).2.1) hz422)) ?_
   rintro v423 S ⟨hv423, H⟩
   replace H : Hp S0 R _ [(i7, .cells [(.int .i64 b407.Kind), (.str b407.Attr), (.str b407.Value), v408, v409]), (i1, .cells [(.int .i64 a410.Kind), (.str a410.Attr), (.str a410.Value), .nils, .nils]), (id, .cells [(.str y419.1.s_), (.int .i64 y419.1.at_), (.int .i64 y419.1.left), (.bool y419.1.fails)])] [(v423, 5)] [] := H
   refine WS (v := .ptr i7 4) rfl (nz rfl rfl) ?_
   refine WO.store 0 rfl (fz_tmp' hv423.frz rfl) H rfl rfl rfl rfl hv423.one.1 hv423.one.2 rfl (Nat.le_of_ble_eq_true rfl) rfl (own_e hi7) ?_
   intro S H
   replace H : Hp S0 R _ [(i7, .cells [(.int .i64 b407.Kind), (.str b407.Attr), (.str b407.Value), v408, v423]), (i1, .cells [(.int .i64 a410.Kind), (.str a410.Attr), (.str a410.Value), .nils, .nils]), (id, .cells [(.str y419.1.s_), (.int .i64 y419.1.at_), (.int .i64 y419.1.left), (.bool y419.1.fails)])] [(v423, 5)] [] := H
   refine WO.nil ?_
   refine KX.block_n ?_
   refine KX.seq_n ?_
   exact ih h v408 (hv408) v423 (hv423) (kc rfl (kc rfl (kc rfl known_nil))) (H.sub (.cons_cons _ (.cons_cons _ (.cons_cons _ .slnil))) (.cons_cons _ .slnil) .slnil)
  ·refine WC.condF rfl hc424 ?_
   refine WC.exit ?_
   refine KX.seq_x ?_
   refine KX.seq_x ?_
   obtain rfl := Option.some.inj h
   exact hbrk v408 (hv408) v409 (hv409) (kc rfl (kc rfl (kc rfl known_nil))) (H.sub (.cons_cons _ (.cons_cons _ (.cons_cons _ .slnil))) (.cons_cons _ .slnil) .slnil)
theorem s28 : ∀ k : Nat, ∀ {a0 : Filter_reader} {r : Filter_reader × Api_Filter}, F28 k a0 = some r → ∀ {id : Nat} {S : List SObj}, S[id]? = some (.cells [(.str a0.s_), (.int .i64 a0.at_), (.int .i64 a0.left), (.bool a0.fails)]) → evw env 28 [.ptr id 0] S = some ((.agg [(.int .i64 r.2.Kind), (.str r.2.Attr), (.str r.2.Value), (encSl eS r.2.Subs), (encSl e_Api_Filter r.2.Kids)]), S.set id (.cells [(.str r.1.s_), (.int .i64 r.1.at_), (.int .i64 r.1.left), (.bool r.1.fails)]), false) := by
 intro k
 induction k with
 | zero => intro _ r h; cases h
 | succ k ih =>
  intro a0 r h id S0 hS
  rw [F28] at h
  refine evw_recvW (pf := fn28) rfl rfl (Nat.le_of_ble_eq_true rfl) rfl ?_
  refine WB.of (pf := fn28) rfl ?_
  have H := Hp.start1 hS rfl
  refine WC.seqR ?_
  refine WO.alloc' (ti := ty25) rfl rfl rfl rfl H ?_
  intro i1 S hi1 H
  refine WO.nil ?_
  refine WC.seq ?_
  refine WC.seqR ?_
  refine WS (v := .ptr id 0) rfl (nz rfl rfl) ?_
  refine WS (v := .ptr id 0) rfl (nz rfl rfl) ?_
  refine WS (v := .ptr id 2) rfl (nz rfl rfl) ?_
  refine WS (v := .int .i64 a0.left) rfl (nz rfl (stp_load rfl (H.get 1 rfl) rfl)) ?_
  refine WS (v := (.int .i64 (sb .i64 a0.left 1))) rfl (nz rfl rfl) ?_
  refine WS (v := .ptr id 0) rfl (nz rfl rfl) ?_
  refine WS (v := .ptr id 2) rfl (nz rfl rfl) ?_
  refine WO.store 1 rfl rfl H rfl rfl rfl rfl rfl rfl rfl (Nat.le_of_ble_eq_true rfl) rfl (clean_e rfl) ?_
  intro S H
  replace H : Hp S0 [id] _ [(i1, .cells [(.int .i64 0), (.str []), (.str []), .nils, .nils]), (id, .cells [(.str a0.s_), (.int .i64 a0.at_), (.int .i64 (sb .i64 a0.left 1)), (.bool a0.fails)])] [] [] := H
  refine WO.nil ?_
  refine WC.seqR ?_
  refine WS (v := .ptr id 0) rfl (nz rfl rfl) ?_
  refine WS (v := .ptr id 0) rfl (nz rfl rfl) ?_
  refine WS (v := .ptr id 2) rfl (nz rfl rfl) ?_
  refine WS (v := (.int .i64 (sb .i64 a0.left 1))) rfl (nz rfl (stp_load rfl (H.get 1 rfl) rfl)) ?_
  refine WS (v := (.bool (decide ((sb .i64 a0.left 1) < 0)))) rfl (nz rfl rfl) ?_
  refine WO.nil ?_
  obtain ⟨y4, hy4, hOy4⟩ := bindS h
  refine WC.join (fun σ' S' e' => Known ([(0, (.ptr id 0)), (2, (.ptr i1 0))]) σ' ∧ Hp S0 [id] S' [(i1, .cells [(.int .i64 0), (.str []), (.str []), .nils, .nils]), (id, .cells [(.str y4.s_), (.int .i64 y4.at_), (.int .i64 y4.left), (.bool y4.fails)])] [] [] ∧ e' = false) ?_ ?_
  ·replace h := hy4
   rcases iteS h with ⟨hc5, h⟩ | ⟨hc5, h⟩
   ·refine WC.condT rfl hc5 ?_
    refine WC.region ?_
    refine WS (v := .ptr id 0) rfl (nz rfl rfl) ?_
    refine WS (v := .ptr id 0) rfl (nz rfl rfl) ?_
    refine WS (v := .ptr id 3) rfl (nz rfl rfl) ?_
    refine WO.store 1 rfl rfl H rfl rfl rfl rfl rfl rfl rfl (Nat.le_of_ble_eq_true rfl) rfl (clean_e rfl) ?_
    intro S H
    replace H : Hp S0 [id] _ [(i1, .cells [(.int .i64 0), (.str []), (.str []), .nils, .nils]), (id, .cells [(.str a0.s_), (.int .i64 a0.at_), (.int .i64 (sb .i64 a0.left 1)), (.bool true)])] [] [] := H
    refine WO.nil ?_
    refine KX.seq_n ?_
    obtain rfl := Option.some.inj h
    exact ⟨(kc rfl (kc rfl known_nil)), (H.sub (.cons_cons _ (.cons_cons _ .slnil)) .slnil .slnil), rfl⟩
   ·refine WC.condF rfl hc5 ?_
    refine WC.skip ?_
    refine KX.seq_n ?_
    obtain rfl := Option.some.inj h
    exact ⟨(kc rfl (kc rfl known_nil)), (H.sub (.cons_cons _ (.cons_cons _ .slnil)) .slnil .slnil), rfl⟩
  ·rintro σ S e ⟨hk, H, rfl⟩
   replace h := hOy4
   refine KX.of_known hk ?_
   refine KX.seq_n ?_
   refine WC.seqR ?_
   refine WS (v := .ptr id 0) rfl (nz rfl rfl) ?_
   obtain ⟨y6, hy6, h⟩ := bindS h
   refine WO.callR 1 rfl rfl rfl rfl H rfl (s39 _ hy6 (H.get 1 rfl)) ?_
   intro S H
   replace H : Hp S0 [id] _ [(i1, .cells [(.int .i64 0), (.str []), (.str []), .nils, .nils]), (id, .cells [(.str y6.s_), (.int .i64 y6.at_), (.int .i64 y6.left), (.bool y6.fails)])] [] [] := H
   refine WO.nil ?_
   refine WC.seqR ?_
   refine WO.alloc' (ti := ty25) rfl rfl rfl rfl H ?_
   intro i7 S hi7 H
   refine WO.nil ?_
   refine WC.seq ?_
   refine WC.seqR ?_
   refine WS (v := .ptr id 0) rfl (nz rfl rfl) ?_
   obtain ⟨y8, hy8, h⟩ := bindS h
   refine WS (v := .int .u8 y8) rfl (nz rfl (stp_call (vs := [(.ptr id 0)]) rfl rfl (s40 _ hy8 (H.get 2 rfl)))) ?_
   refine WO.nil ?_
   refine WC.block ?_
   refine WC.seqR ?_
   refine WS (v := (.bool (y8 == 38))) rfl (nz rfl rfl) ?_
   refine WS (v := (.bool (y8 == 38))) rfl (nz rfl rfl) ?_
   refine WO.nil ?_
   obtain ⟨y182, hy182, hOy182⟩ := bindS h
   refine WC.join (fun σ' S' e' => ∃ v183, ∃ v184, IsSl eS y182.1.Subs v183 ∧ IsSl e_Api_Filter y182.1.Kids v184 ∧ Known ([(0, (.ptr id 0)), (2, (.ptr i1 0)), (3, (.ptr i7 0))]) σ' ∧ Hp S0 [id] S' [(i7, .cells [(.int .i64 y182.1.Kind), (.str y182.1.Attr), (.str y182.1.Value), v183, v184]), (i1, .cells [(.int .i64 0), (.str []), (.str []), .nils, .nils]), (id, .cells [(.str y182.2.s_), (.int .i64 y182.2.at_), (.int .i64 y182.2.left), (.bool y182.2.fails)])] [] [] ∧ e' = false) ?_ ?_
   ·replace h := hy182
    rcases iteS h with ⟨hc218, h⟩ | ⟨hc218, h⟩
    ·refine WC.condT rfl hc218 ?_
     refine WC.region ?_
     refine WS (v := .ptr i7 0) rfl (nz rfl rfl) ?_
     refine WO.store 0 rfl rfl H rfl rfl rfl rfl rfl rfl rfl (Nat.le_of_ble_eq_true rfl) rfl (own_e hi7) ?_
     intro S H
     replace H : Hp S0 [id] _ [(i7, .cells [(.int .i64 1), (.str []), (.str []), .nils, .nils]), (i1, .cells [(.int .i64 0), (.str []), (.str []), .nils, .nils]), (id, .cells [(.str y6.s_), (.int .i64 y6.at_), (.int .i64 y6.left), (.bool y6.fails)])] [] [] := H
     refine WO.nil ?_
     refine KX.seq_n ?_
     obtain rfl := Option.some.inj h
     exact ⟨.nils, .nils, (isSl_nil _), (isSl_nil _), (kc rfl (kc rfl (kc rfl known_nil))), (H.sub (.cons_cons _ (.cons_cons _ (.cons_cons _ .slnil))) .slnil .slnil), rfl⟩
    ·refine WC.condF rfl hc218 ?_
     refine WC.seqR ?_
     refine WS (v := (.bool (y8 == 124))) rfl (nz rfl rfl) ?_
     refine WS (v := (.bool (y8 == 124))) rfl (nz rfl rfl) ?_
     refine WO.nil ?_
     obtain ⟨y205, hy205, hOy205⟩ := bindS h
     refine WC.join (fun σ' S' e' => ∃ v206, ∃ v207, IsSl eS y205.1.Subs v206 ∧ IsSl e_Api_Filter y205.1.Kids v207 ∧ Known ([(0, (.ptr id 0)), (2, (.ptr i1 0)), (3, (.ptr i7 0))]) σ' ∧ Hp S0 [id] S' [(i7, .cells [(.int .i64 y205.1.Kind), (.str y205.1.Attr), (.str y205.1.Value), v206, v207]), (i1, .cells [(.int .i64 0), (.str []), (.str []), .nils, .nils]), (id, .cells [(.str y205.2.s_), (.int .i64 y205.2.at_), (.int .i64 y205.2.left), (.bool y205.2.fails)])] [] [] ∧ e' = false) ?_ ?_
     ·replace h := hy205
      rcases iteS h with ⟨hc217, h⟩ | ⟨hc217, h⟩
      ·refine WC.condT rfl hc217 ?_
       refine WC.region ?_
       refine WS (v := .ptr i7 0) rfl (nz rfl rfl) ?_
       refine WO.store 0 rfl rfl H rfl rfl rfl rfl rfl rfl rfl (Nat.le_of_ble_eq_true rfl) rfl (own_e hi7) ?_
       intro S H
       replace H : Hp S0 [id] _ [(i7, .cells [(.int .i64 2), (.str []), (.str []), .nils, .nils]), (i1, .cells [(.int .i64 0), (.str []), (.str []), .nils, .nils]), (id, .cells [(.str y6.s_), (.int .i64 y6.at_), (.int .i64 y6.left), (.bool y6.fails)])] [] [] := H
       refine WO.nil ?_
       refine KX.seq_n ?_
       obtain rfl := Option.some.inj h
       exact ⟨.nils, .nils, (isSl_nil _), (isSl_nil _), (kc rfl (kc rfl (kc rfl known_nil))), (H.sub (.cons_cons _ (.cons_cons _ (.cons_cons _ .slnil))) .slnil .slnil), rfl⟩
      ·refine WC.condF rfl hc217 ?_
       refine WC.seqR ?_
       refine WS (v := (.bool (y8 == 33))) rfl (nz rfl rfl) ?_
       refine WS (v := (.bool (y8 == 33))) rfl (nz rfl rfl) ?_
       refine WO.nil ?_
       obtain ⟨y212, hy212, hOy212⟩ := bindS h
       refine WC.join (fun σ' S' e' => ∃ v213, ∃ v214, IsSl eS y212.1.Subs v213 ∧ IsSl e_Api_Filter y212.1.Kids v214 ∧ Known ([(0, (.ptr id 0)), (2, (.ptr i1 0)), (3, (.ptr i7 0))]) σ' ∧ Hp S0 [id] S' [(i7, .cells [(.int .i64 y212.1.Kind), (.str y212.1.Attr), (.str y212.1.Value), v213, v214]), (i1, .cells [(.int .i64 0), (.str []), (.str []), .nils, .nils]), (id, .cells [(.str y212.2.s_), (.int .i64 y212.2.at_), (.int .i64 y212.2.left), (.bool y212.2.fails)])] [] [] ∧ e' = false) ?_ ?_
       ·replace h := hy212
        rcases iteS h with ⟨hc216, h⟩ | ⟨hc216, h⟩
        ·refine WC.condT rfl hc216 ?_
         refine WC.region ?_
         refine WS (v := .ptr i7 0) rfl (nz rfl rfl) ?_
         refine WO.store 0 rfl rfl H rfl rfl rfl rfl rfl rfl rfl (Nat.le_of_ble_eq_true rfl) rfl (own_e hi7) ?_
         intro S H
         replace H : Hp S0 [id] _ [(i7, .cells [(.int .i64 3), (.str []), (.str []), .nils, .nils]), (i1, .cells [(.int .i64 0), (.str []), (.str []), .nils, .nils]), (id, .cells [(.str y6.s_), (.int .i64 y6.at_), (.int .i64 y6.left), (.bool y6.fails)])] [] [] := H
         refine WO.nil ?_
         refine KX.seq_n ?_
         obtain rfl := Option.some.inj h
         exact ⟨.nils, .nils, (isSl_nil _), (isSl_nil _), (kc rfl (kc rfl (kc rfl known_nil))), (H.sub (.cons_cons _ (.cons_cons _ (.cons_cons _ .slnil))) .slnil .slnil), rfl⟩
        ·refine WC.condF rfl hc216 ?_
         refine WC.region ?_
         refine WS (v := .ptr id 0) rfl (nz rfl rfl) ?_
         obtain ⟨y215, hy215, h⟩ := bindS h
         refine WO.callR 2 rfl rfl rfl rfl H rfl (s41 _ hy215 (H.get 2 rfl)) ?_
         intro S H
         replace H : Hp S0 [id] _ [(i7, .cells [(.int .i64 0), (.str []), (.str []), .nils, .nils]), (i1, .cells [(.int .i64 0), (.str []), (.str []), .nils, .nils]), (id, .cells [(.str y215.1.s_), (.int .i64 y215.1.at_), (.int .i64 y215.1.left), (.bool y215.1.fails)])] [] [] := H
         refine WO.store 0 rfl rfl H rfl rfl rfl rfl rfl rfl rfl (Nat.le_of_ble_eq_true rfl) rfl (own_e hi7) ?_
         intro S H
         replace H : Hp S0 [id] _ [(i7, .cells [(.int .i64 y215.2.Kind), (.str y215.2.Attr), (.str y215.2.Value), (encSl eS y215.2.Subs), (encSl e_Api_Filter y215.2.Kids)]), (i1, .cells [(.int .i64 0), (.str []), (.str []), .nils, .nils]), (id, .cells [(.str y215.1.s_), (.int .i64 y215.1.at_), (.int .i64 y215.1.left), (.bool y215.1.fails)])] [] [] := H
         refine WO.nil ?_
         refine KX.seq_n ?_
         obtain rfl := Option.some.inj h
         exact ⟨(encSl eS y215.2.Subs), (encSl e_Api_Filter y215.2.Kids), (isSl_enc _ _), (isSl_enc _ _), (kc rfl (kc rfl (kc rfl known_nil))), (H.sub (.cons_cons _ (.cons_cons _ (.cons_cons _ .slnil))) .slnil .slnil), rfl⟩
       ·rintro σ S e ⟨v213, v214, hv213, hv214, hk, H, rfl⟩
        replace h := hOy212
        refine KX.of_known hk ?_
        refine KX.seq_n ?_
        obtain rfl := Option.some.inj h
        exact ⟨v213, v214, hv213, hv214, (kc rfl (kc rfl (kc rfl known_nil))), (H.sub (.cons_cons _ (.cons_cons _ (.cons_cons _ .slnil))) .slnil .slnil), rfl⟩
     ·rintro σ S e ⟨v206, v207, hv206, hv207, hk, H, rfl⟩
      replace h := hOy205
      refine KX.of_known hk ?_
      refine KX.seq_n ?_
      obtain rfl := Option.some.inj h
      exact ⟨v206, v207, hv206, hv207, (kc rfl (kc rfl (kc rfl known_nil))), (H.sub (.cons_cons _ (.cons_cons _ (.cons_cons _ .slnil))) .slnil .slnil), rfl⟩
   ·rintro σ S e ⟨v183, v184, hv183, hv184, hk, H, rfl⟩
    replace h := hOy182
    refine KX.of_known hk ?_
    refine KX.block_n ?_
    refine KX.seq_n ?_
    refine WC.seq ?_
    refine WC.seqR ?_
    refine WS (v := .ptr i7 0) rfl (nz rfl rfl) ?_
    refine WS (v := .int .i64 y182.1.Kind) rfl (nz rfl (stp_load rfl (H.get 0 rfl) rfl)) ?_
    obtain ⟨y219, hy219, h⟩ := bindS h
    refine WS (v := .bool y219) rfl (nz rfl (stp_call (vs := [(.int .i64 y182.1.Kind)]) rfl rfl (s25 _ hy219 rfl _))) ?_
    refine WO.nil ?_
    obtain ⟨y358, hy358, hOy358⟩ := bindS h
    refine WC.join (fun σ' S' e' => ∃ v359, ∃ v360, IsSl eS y358.1.Subs v359 ∧ IsSl e_Api_Filter y358.1.Kids v360 ∧ Known ([(0, (.ptr id 0)), (2, (.ptr i1 0)), (3, (.ptr i7 0))]) σ' ∧ Hp S0 [id] S' [(i7, .cells [(.int .i64 y358.1.Kind), (.str y358.1.Attr), (.str y358.1.Value), v359, v360]), (i1, .cells [(.int .i64 0), (.str []), (.str []), .nils, .nils]), (id, .cells [(.str y358.2.s_), (.int .i64 y358.2.at_), (.int .i64 y358.2.left), (.bool y358.2.fails)])] [] [] ∧ e' = false) ?_ ?_
    ·replace h := hy358
     rcases iteS h with ⟨hc431, h⟩ | ⟨hc431, h⟩
     ·refine WC.condT rfl hc431 ?_
      refine WC.seqR ?_
      refine WS (v := .ptr id 0) rfl (nz rfl rfl) ?_
      refine WS (v := .ptr id 0) rfl (nz rfl rfl) ?_
      refine WS (v := .ptr id 1) rfl (nz rfl rfl) ?_
      refine WS (v := .int .i64 y182.2.at_) rfl (nz rfl (stp_load rfl (H.get 2 rfl) rfl)) ?_
      refine WS (v := (.int .i64 (ad .i64 y182.2.at_ 1))) rfl (nz rfl rfl) ?_
      refine WS (v := .ptr id 0) rfl (nz rfl rfl) ?_
      refine WS (v := .ptr id 1) rfl (nz rfl rfl) ?_
      refine WO.store 2 rfl rfl H rfl rfl rfl rfl rfl rfl rfl (Nat.le_of_ble_eq_true rfl) rfl (clean_e rfl) ?_
      intro S H
      replace H : Hp S0 [id] _ [(i7, .cells [(.int .i64 y182.1.Kind), (.str y182.1.Attr), (.str y182.1.Value), v183, v184]), (i1, .cells [(.int .i64 0), (.str []), (.str []), .nils, .nils]), (id, .cells [(.str y182.2.s_), (.int .i64 (ad .i64 y182.2.at_ 1)), (.int .i64 y182.2.left), (.bool y182.2.fails)])] [] [] := H
      refine WO.nil ?_
      obtain ⟨nl428, h⟩ := nilS h
      obtain ⟨y427, hy427, hOy427⟩ := bindS h
      refine WC.block ?_
      have H := H.addNil' 5 (IsSl.nil hv184 nl428)
      refine l28_L1 ih hi7 hi1 ?_ hy427 v183 (hv183) v184 (hv184) (kc rfl (kc rfl (kc rfl known_nil))) (H.sub (.cons_cons _ (.cons_cons _ (.cons_cons _ .slnil))) (.cons_cons _ .slnil) .slnil)
      ·intro σ S v429 hv429 v430 hv430 hk H; replace h := hOy427
       refine KX.of_known hk ?_
       refine KX.block_x ?_
       refine KX.seq_n ?_
       obtain rfl := Option.some.inj h
       exact ⟨v429, v430, hv429, hv430, (kc rfl (kc rfl (kc rfl known_nil))), (H.sub (.cons_cons _ (.cons_cons _ (.cons_cons _ .slnil))) (.cons _ .slnil) .slnil), rfl⟩
     ·refine WC.condF rfl hc431 ?_
      refine WC.skip ?_
      refine KX.seq_n ?_
      obtain rfl := Option.some.inj h
      exact ⟨v183, v184, hv183, hv184, (kc rfl (kc rfl (kc rfl known_nil))), (H.sub (.cons_cons _ (.cons_cons _ (.cons_cons _ .slnil))) .slnil .slnil), rfl⟩
    ·rintro σ S e ⟨v359, v360, hv359, hv360, hk, H, rfl⟩
     replace h := hOy358
     refine KX.of_known hk ?_
     refine KX.seq_n ?_
     refine WC.seqR ?_
     refine WS (v := .ptr id 0) rfl (nz rfl rfl) ?_
     obtain ⟨y432, hy432, h⟩ := bindS h
     refine WO.callR 2 rfl rfl rfl rfl H rfl (s39 _ hy432 (H.get 2 rfl)) ?_
     intro S H
     replace H : Hp S0 [id] _ [(i7, .cells [(.int .i64 y358.1.Kind), (.str y358.1.Attr), (.str y358.1.Value), v359, v360]), (i1, .cells [(.int .i64 0), (.str []), (.str []), .nils, .nils]), (id, .cells [(.str y432.s_), (.int .i64 y432.at_), (.int .i64 y432.left), (.bool y432.fails)])] [] [] := H
     refine WO.nil ?_
     refine WC.seqR ?_
     refine WS (v := (.agg [(.int .i64 y358.1.Kind), (.str y358.1.Attr), (.str y358.1.Value), v359, v360])) rfl (nz rfl (stp_load rfl (H.get 0 rfl) rfl)) ?_
     refine WO.store 1 rfl rfl H rfl rfl rfl rfl rfl rfl rfl (Nat.le_of_ble_eq_true rfl) rfl (own_e hi1) ?_
     intro S H
     replace H : Hp S0 [id] _ [(i7, .cells [(.int .i64 y358.1.Kind), (.str y358.1.Attr), (.str y358.1.Value), v359, v360]), (i1, .cells [(.int .i64 y358.1.Kind), (.str y358.1.Attr), (.str y358.1.Value), v359, v360]), (id, .cells [(.str y432.s_), (.int .i64 y432.at_), (.int .i64 y432.left), (.bool y432.fails)])] [] [] := H
     refine WO.nil ?_
     refine WC.ret ?_
     obtain rfl := Option.some.inj h
     refine KB.ret (vs := [(.agg [(.int .i64 y358.1.Kind), (.str y358.1.Attr), (.str y358.1.Value), v359, v360])]) (res_cell rfl (H.get 1 rfl) rfl res_nil) (fl_cons' rfl rfl) ?_
     exact leave_hp hS H 2 rfl (by simp only [st_tup, List.map_cons, List.map_nil, tupled, st_agg, st1_int, st1_str, hv359.strip1, hv360.strip1, e_Api_Filter_eq]) (by simp [PV.clean, cleanL, clean_encSl clean_Api_Filter, clean_encSl clean_eS])
def F18 (k : Nat) (a0 : Str) : Option (Api_Filter × Int) :=
 Option.bind (F28 k (Filter_reader.mk a0 0 20 false) ) fun y3 =>
 Option.bind (if y3.1.fails || (a0 == []) then
 some true
 else
 Option.bind (F13 k y3.2) fun y11 =>
 some (!(y11 == a0))) fun y10 =>
 if y10 then
 some ((Api_Filter.mk 0 [] [] none none), 18)
 else
 some (y3.2, 0)
theorem s18 : ∀ k : Nat, ∀ {a0 : Str} {r : Api_Filter × Int}, F18 k a0 = some r → ∀ {vs : List PV}, vs.map PV.strip = [(.str a0)] → ∀ S : List SObj, evw env 18 vs S = some ((.tup [(.agg [(.int .i64 r.1.Kind), (.str r.1.Attr), (.str r.1.Value), (encSl eS r.1.Subs), (encSl e_Api_Filter r.1.Kids)]), (.int .i64 r.2)]), S, false) := by
 intro k a0 r h vs ha S
 unfold F18 at h
 refine evw_pureW (pf := fn18) rfl rfl ha (Nat.le_of_ble_eq_true rfl) rfl (by simp [PV.clean, cleanL, clean_encSl clean_Api_Filter, clean_encSl clean_eS]) ?_
 refine WB.of (pf := fn18) rfl ?_
 have H := Hp.start []
 refine WC.seqR ?_
 refine WO.alloc' (ti := ty25) rfl rfl rfl rfl H ?_
 intro i1 S hi1 H
 refine WS (v := .int .i64 0) rfl (nz rfl rfl) ?_
 refine WO.nil ?_
 refine WC.seqR ?_
 refine WS (v := .str a0) rfl (nz rfl rfl) ?_
 refine WS (v := (.agg [(.str a0), (.int .i64 0), (.int .i64 20), (.bool false)])) rfl (nz rfl (stp_build (ti := ty48) rfl rfl rfl rfl rfl (fill_cons rfl rfl rfl rfl (Nat.le_of_ble_eq_true rfl) rfl (fill_cons rfl rfl rfl rfl (Nat.le_of_ble_eq_true rfl) rfl rfl)))) ?_
 refine WO.box' rfl rfl rfl rfl rfl H ?_
 intro i2 S hi2 H
 refine WS (v := .ptr i2 0) rfl (nz rfl rfl) ?_
 refine WO.nil ?_
 refine WC.seqR ?_
 refine WS (v := .ptr i2 0) rfl (nz rfl rfl) ?_
 obtain ⟨y3, hy3, h⟩ := bindS h
 refine WO.callR 0 rfl rfl rfl rfl H rfl (s28 _ hy3 (H.get 0 rfl)) ?_
 intro S H
 replace H : Hp [] [] _ [(i2, .cells [(.str y3.1.s_), (.int .i64 y3.1.at_), (.int .i64 y3.1.left), (.bool y3.1.fails)]), (i1, .cells [(.int .i64 0), (.str []), (.str []), .nils, .nils])] [] [] := H
 refine WO.alloc' (ti := ty25) rfl rfl rfl rfl H ?_
 intro i4 S hi4 H
 refine WO.store 0 rfl rfl H rfl rfl rfl rfl rfl rfl rfl (Nat.le_of_ble_eq_true rfl) rfl (own_e hi4) ?_
 intro S H
 replace H : Hp [] [] _ [(i4, .cells [(.int .i64 y3.2.Kind), (.str y3.2.Attr), (.str y3.2.Value), (encSl eS y3.2.Subs), (encSl e_Api_Filter y3.2.Kids)]), (i2, .cells [(.str y3.1.s_), (.int .i64 y3.1.at_), (.int .i64 y3.1.left), (.bool y3.1.fails)]), (i1, .cells [(.int .i64 0), (.str []), (.str []), .nils, .nils])] [] [] := H
 refine WO.nil ?_
 refine WC.seq ?_
 refine WC.seqR ?_
 refine WS (v := .ptr i2 0) rfl (nz rfl rfl) ?_
 refine WS (v := .ptr i2 0) rfl (nz rfl rfl) ?_
 refine WS (v := .ptr i2 3) rfl (nz rfl rfl) ?_
 refine WS (v := .bool y3.1.fails) rfl (nz rfl (stp_load rfl (H.get 1 rfl) rfl)) ?_
 refine WS (v := .bool y3.1.fails) rfl (nz rfl rfl) ?_
 refine WO.split 3 (fun σ' S' e' => Known ([(0, (.str a0)), (2, (.ptr i1 0)), (5, (.ptr i4 0)), (18, (.bool (y3.1.fails || (a0 == []))))]) σ' ∧ Hp [] [] S' [(i4, .cells [(.int .i64 y3.2.Kind), (.str y3.2.Attr), (.str y3.2.Value), (encSl eS y3.2.Subs), (encSl e_Api_Filter y3.2.Kids)]), (i2, .cells [(.str y3.1.s_), (.int .i64 y3.1.at_), (.int .i64 y3.1.left), (.bool y3.1.fails)]), (i1, .cells [(.int .i64 0), (.str []), (.str []), .nils, .nils])] [] [] ∧ e' = false) ?_ ?_
 ·revert H
  cases hc5 : y3.1.fails
  ·intro H
   refine WO.go0 rfl rfl ?_
   refine WS (v := .str a0) rfl (nz rfl rfl) ?_
   refine WO.go0 rfl rfl ?_
   refine WS (v := (.bool (a0 == []))) rfl (nz rfl rfl) ?_
   refine WS (v := (.bool (a0 == []))) rfl (nz rfl rfl) ?_
   refine WO.nil ?_
   exact ⟨(kc rfl (kc rfl (kc rfl (kc rfl known_nil)))), H, rfl⟩
  ·intro H
   refine WO.by rfl rfl rfl ?_
   refine WO.by rfl rfl rfl ?_
   refine WS (v := .bool true) rfl (nz rfl rfl) ?_
   refine WO.nil ?_
   exact ⟨(kc rfl (kc rfl (kc rfl (kc rfl known_nil)))), H, rfl⟩
 ·rintro σ S e ⟨hk, H, rfl⟩
  refine WO.of_known hk ?_
  refine WS (v := (.bool (y3.1.fails || (a0 == [])))) rfl (nz rfl rfl) ?_
  obtain ⟨y10, hy10, hOy10⟩ := bindS h
  refine WO.split 5 (fun σ' S' e' => Known ([(2, (.ptr i1 0)), (5, (.ptr i4 0)), (24, (.bool y10))]) σ' ∧ Hp [] [] S' [(i4, .cells [(.int .i64 y3.2.Kind), (.str y3.2.Attr), (.str y3.2.Value), (encSl eS y3.2.Subs), (encSl e_Api_Filter y3.2.Kids)]), (i2, .cells [(.str y3.1.s_), (.int .i64 y3.1.at_), (.int .i64 y3.1.left), (.bool y3.1.fails)]), (i1, .cells [(.int .i64 0), (.str []), (.str []), .nils, .nils])] [] [] ∧ e' = false) ?_ ?_
  ·replace h := hy10
   revert H
   cases hc12 : (y3.1.fails || (a0 == []))
   ·intro H
    replace h := iteF h hc12
    refine WO.go0 rfl rfl ?_
    refine WS (v := (.agg [(.int .i64 y3.2.Kind), (.str y3.2.Attr), (.str y3.2.Value), (encSl eS y3.2.Subs), (encSl e_Api_Filter y3.2.Kids)])) rfl (nz rfl (stp_load rfl (H.get 0 rfl) rfl)) ?_
    refine WO.go0 rfl rfl ?_
    obtain ⟨y11, hy11, h⟩ := bindS h
    refine WS (v := .str y11) rfl (nz rfl (stp_call (vs := [(.agg [(.int .i64 y3.2.Kind), (.str y3.2.Attr), (.str y3.2.Value), (encSl eS y3.2.Subs), (encSl e_Api_Filter y3.2.Kids)])]) rfl rfl (s13 _ hy11 (by simp only [st_agg, List.map_cons, List.map_nil, st1_int, st1_str, strip1_enc, e_Api_Filter_eq, tupled]) _))) ?_
    refine WO.go0 rfl rfl ?_
    refine WS (v := .str a0) rfl (nz rfl rfl) ?_
    refine WO.go0 rfl rfl ?_
    refine WS (v := (.bool (!(y11 == a0)))) rfl (nz rfl rfl) ?_
    refine WS (v := (.bool (!(y11 == a0)))) rfl (nz rfl rfl) ?_
    refine WO.nil ?_
    obtain rfl := Option.some.inj h
    exact ⟨(kc rfl (kc rfl (kc rfl known_nil))), (H.sub (.cons_cons _ (.cons_cons _ (.cons_cons _ .slnil))) .slnil .slnil), rfl⟩
   ·intro H
    replace h := iteT h hc12
    refine WO.by rfl rfl rfl ?_
    refine WO.by rfl rfl rfl ?_
    refine WO.by rfl rfl rfl ?_
    refine WO.by rfl rfl rfl ?_
    refine WS (v := .bool true) rfl (nz rfl rfl) ?_
    refine WO.nil ?_
    obtain rfl := Option.some.inj h
    exact ⟨(kc rfl (kc rfl (kc rfl known_nil))), (H.sub (.cons_cons _ (.cons_cons _ (.cons_cons _ .slnil))) .slnil .slnil), rfl⟩
  ·rintro σ S e ⟨hk, H, rfl⟩
   replace h := hOy10
   refine WO.of_known hk ?_
   refine WO.nil ?_
   rcases iteS h with ⟨hc14, h⟩ | ⟨hc14, h⟩
   ·refine WC.condT rfl hc14 ?_
    refine WC.seqR ?_
    refine WS (v := (.agg [(.int .i64 0), (.str []), (.str []), .nils, .nils])) rfl (nz rfl (stp_build (ti := ty25) rfl rfl rfl rfl rfl rfl)) ?_
    refine WO.store 2 rfl rfl H rfl rfl rfl rfl rfl rfl rfl (Nat.le_of_ble_eq_true rfl) rfl (own_e hi1) ?_
    intro S H
    replace H : Hp [] [] _ [(i4, .cells [(.int .i64 y3.2.Kind), (.str y3.2.Attr), (.str y3.2.Value), (encSl eS y3.2.Subs), (encSl e_Api_Filter y3.2.Kids)]), (i2, .cells [(.str y3.1.s_), (.int .i64 y3.1.at_), (.int .i64 y3.1.left), (.bool y3.1.fails)]), (i1, .cells [(.int .i64 0), (.str []), (.str []), .nils, .nils])] [] [] := H
    refine WS (v := .int .i64 18) rfl (nz rfl rfl) ?_
    refine WO.nil ?_
    refine WC.ret ?_
    refine KX.seq_r ?_
    obtain rfl := Option.some.inj h
    refine KB.ret (vs := [(.agg [(.int .i64 0), (.str []), (.str []), .nils, .nils]), (.int .i64 18)]) (res_cell rfl (H.get 2 rfl) rfl (res_tmp rfl res_nil)) (fl_cons' rfl (fl_cons' rfl rfl)) ?_
    exact (by simp only [st_tup, List.map_cons, List.map_nil, tupled, st2_agg, st1_int, st1_str, st1_nils, encSl_none, e_Api_Filter_eq, st2_int])
   ·refine WC.condF rfl hc14 ?_
    refine WC.skip ?_
    refine KX.seq_n ?_
    refine WC.seqR ?_
    refine WS (v := (.agg [(.int .i64 y3.2.Kind), (.str y3.2.Attr), (.str y3.2.Value), (encSl eS y3.2.Subs), (encSl e_Api_Filter y3.2.Kids)])) rfl (nz rfl (stp_load rfl (H.get 0 rfl) rfl)) ?_
    refine WO.store 2 rfl rfl H rfl rfl rfl rfl rfl rfl rfl (Nat.le_of_ble_eq_true rfl) rfl (own_e hi1) ?_
    intro S H
    replace H : Hp [] [] _ [(i4, .cells [(.int .i64 y3.2.Kind), (.str y3.2.Attr), (.str y3.2.Value), (encSl eS y3.2.Subs), (encSl e_Api_Filter y3.2.Kids)]), (i2, .cells [(.str y3.1.s_), (.int .i64 y3.1.at_), (.int .i64 y3.1.left), (.bool y3.1.fails)]), (i1, .cells [(.int .i64 y3.2.Kind), (.str y3.2.Attr), (.str y3.2.Value), (encSl eS y3.2.Subs), (encSl e_Api_Filter y3.2.Kids)])] [] [] := H
    refine WS (v := .int .i64 0) rfl (nz rfl rfl) ?_
    refine WO.nil ?_
    refine WC.ret ?_
    obtain rfl := Option.some.inj h
    refine KB.ret (vs := [(.agg [(.int .i64 y3.2.Kind), (.str y3.2.Attr), (.str y3.2.Value), (encSl eS y3.2.Subs), (encSl e_Api_Filter y3.2.Kids)]), (.int .i64 0)]) (res_cell rfl (H.get 2 rfl) rfl (res_tmp rfl res_nil)) (fl_cons' rfl (fl_cons' rfl rfl)) ?_
    exact (by simp only [st_tup, List.map_cons, List.map_nil, tupled, st2_agg, st1_int, st1_str, strip1_enc, e_Api_Filter_eq, st2_int])
def F8 (k : Nat) : Option Bool :=
 Option.bind (F18 k [40, 38, 40, 99, 110, 61, 97, 42, 41, 40, 33, 40, 115, 110, 61, 98, 41, 41, 41]) fun y1 =>
 Option.bind (F18 k [40, 99, 110, 61]) fun y3 =>
 Option.bind (if ((y1.2 == 0) && (y1.1.Kind == 1)) && ((Sl.len y1.1.Kids) == 2) then
 Option.bind (Sl.at? y1.1.Kids 0) fun y12 =>
 some (y12.Kind == 8)
 else
 some false) fun y11 =>
 Option.bind (if y11 then
 Option.bind (Sl.at? y1.1.Kids 0) fun y19 =>
 some ((Sl.len y19.Subs) == 2)
 else
 some false) fun y18 =>
 Option.bind (if y18 && (y3.2 == 18) then
 Option.bind (F13 k y1.1) fun y27 =>
 some (y27 == [40, 38, 40, 99, 110, 61, 97, 42, 41, 40, 33, 40, 115, 110, 61, 98, 41, 41, 41])
 else
 some false) fun y26 =>
 Option.bind (if y26 then
 Option.bind (F12 k y1.1) fun y34 =>
 some y34
 else
 some false) fun y33 =>
 Option.bind (if y33 then
 Option.bind (F12 k (Api_Filter.mk 0 [] [] none none)) fun y41 =>
 some (!y41)
 else
 some false) fun y40 =>
 Option.bind (if y40 then
 Option.bind (F14 k y1.1) fun y48 =>
 some (y48 == 4)
 else
 some false) fun y47 =>
 Option.bind (if y47 then
 Option.bind (F16 k y1.1 y1.1) fun y55 =>
 some y55
 else
 some false) fun y54 =>
 some y54
theorem s8 : ∀ k : Nat, ∀ {r : Bool}, F8 k  = some r → ∀ {vs : List PV}, vs.map PV.strip = [] → ∀ S : List SObj, evw env 8 vs S = some ((.bool r), S, false) := by
 intro k  r h vs ha S
 unfold F8 at h
 refine evw_pureW (pf := fn8) rfl rfl ha (Nat.le_of_ble_eq_true rfl) rfl rfl ?_
 refine WB.of (pf := fn8) rfl ?_
 have H := Hp.start []
 refine WC.seqR ?_
 refine WS (v := .bool false) rfl (nz rfl rfl) ?_
 refine WO.nil ?_
 refine WC.seqR ?_
 obtain ⟨y1, hy1, h⟩ := bindS h
 refine WS (v := (.tup [(.agg [(.int .i64 y1.1.Kind), (.str y1.1.Attr), (.str y1.1.Value), (encSl eS y1.1.Subs), (encSl e_Api_Filter y1.1.Kids)]), (.int .i64 y1.2)])) rfl (nz rfl (stp_call (vs := [(.str [40, 38, 40, 99, 110, 61, 97, 42, 41, 40, 33, 40, 115, 110, 61, 98, 41, 41, 41])]) rfl rfl (s18 _ hy1 rfl _))) ?_
 refine WS (v := (.tup [(.agg [(.int .i64 y1.1.Kind), (.str y1.1.Attr), (.str y1.1.Value), (encSl eS y1.1.Subs), (encSl e_Api_Filter y1.1.Kids)]), (.int .i64 y1.2)])) rfl (nz rfl rfl) ?_
 refine WS (v := (.agg [(.int .i64 y1.1.Kind), (.str y1.1.Attr), (.str y1.1.Value), (encSl eS y1.1.Subs), (encSl e_Api_Filter y1.1.Kids)])) rfl (nz rfl rfl) ?_
 refine WS (v := .int .i64 y1.2) rfl (nz rfl rfl) ?_
 refine WO.alloc' (ti := ty25) rfl rfl rfl rfl H ?_
 intro i2 S hi2 H
 refine WO.store 0 rfl rfl H rfl rfl rfl rfl rfl rfl rfl (Nat.le_of_ble_eq_true rfl) rfl (own_e hi2) ?_
 intro S H
 replace H : Hp [] [] _ [(i2, .cells [(.int .i64 y1.1.Kind), (.str y1.1.Attr), (.str y1.1.Value), (encSl eS y1.1.Subs), (encSl e_Api_Filter y1.1.Kids)])] [] [] := H
 refine WS (v := .int .i64 y1.2) rfl (nz rfl rfl) ?_
 refine WO.nil ?_
 refine WC.seqR ?_
 obtain ⟨y3, hy3, h⟩ := bindS h
 refine WS (v := (.tup [(.agg [(.int .i64 y3.1.Kind), (.str y3.1.Attr), (.str y3.1.Value), (encSl eS y3.1.Subs), (encSl e_Api_Filter y3.1.Kids)]), (.int .i64 y3.2)])) rfl (nz rfl (stp_call (vs := [(.str [40, 99, 110, 61])]) rfl rfl (s18 _ hy3 rfl _))) ?_
 refine WS (v := (.tup [(.agg [(.int .i64 y3.1.Kind), (.str y3.1.Attr), (.str y3.1.Value), (encSl eS y3.1.Subs), (encSl e_Api_Filter y3.1.Kids)]), (.int .i64 y3.2)])) rfl (nz rfl rfl) ?_
 refine WS (v := (.agg [(.int .i64 y3.1.Kind), (.str y3.1.Attr), (.str y3.1.Value), (encSl eS y3.1.Subs), (encSl e_Api_Filter y3.1.Kids)])) rfl (nz rfl rfl) ?_
 refine WS (v := .int .i64 y3.2) rfl (nz rfl rfl) ?_
 refine WO.alloc' (ti := ty25) rfl rfl rfl rfl H ?_
 intro i4 S hi4 H
 refine WO.store 0 rfl rfl H rfl rfl rfl rfl rfl rfl rfl (Nat.le_of_ble_eq_true rfl) rfl (own_e hi4) ?_
 intro S H
 replace H : Hp [] [] _ [(i4, .cells [(.int .i64 y3.1.Kind), (.str y3.1.Attr), (.str y3.1.Value), (encSl eS y3.1.Subs), (encSl e_Api_Filter y3.1.Kids)]), (i2, .cells [(.int .i64 y1.1.Kind), (.str y1.1.Attr), (.str y1.1.Value), (encSl eS y1.1.Subs), (encSl e_Api_Filter y1.1.Kids)])] [] [] := H
 refine WS (v := .int .i64 y3.2) rfl (nz rfl rfl) ?_
 refine WO.nil ?_
 refine WC.seqR ?_
 refine WS (v := .int .i64 y1.2) rfl (nz rfl rfl) ?_
 refine WS (v := (.bool (y1.2 == 0))) rfl (nz rfl rfl) ?_
 refine WS (v := (.bool (y1.2 == 0))) rfl (nz rfl rfl) ?_
 refine WO.split 4 (fun σ' S' e' => Known ([(1, (.ptr i2 0)), (4, (.int .i64 y3.2)), (19, (.bool ((y1.2 == 0) && (y1.1.Kind == 1))))]) σ' ∧ Hp [] [] S' [(i4, .cells [(.int .i64 y3.1.Kind), (.str y3.1.Attr), (.str y3.1.Value), (encSl eS y3.1.Subs), (encSl e_Api_Filter y3.1.Kids)]), (i2, .cells [(.int .i64 y1.1.Kind), (.str y1.1.Attr), (.str y1.1.Value), (encSl eS y1.1.Subs), (encSl e_Api_Filter y1.1.Kids)])] [] [] ∧ e' = false) ?_ ?_
 ·revert H
  cases hc5 : (y1.2 == 0)
  ·intro H
   refine WO.by rfl rfl rfl ?_
   refine WO.by rfl rfl rfl ?_
   refine WO.by rfl rfl rfl ?_
   refine WS (v := .bool false) rfl (nz rfl rfl) ?_
   refine WO.nil ?_
   exact ⟨(kc rfl (kc rfl (kc rfl known_nil))), H, rfl⟩
  ·intro H
   refine WO.go0 rfl rfl ?_
   refine WS (v := .ptr i2 0) rfl (nz rfl rfl) ?_
   refine WO.go0 rfl rfl ?_
   refine WS (v := .int .i64 y1.1.Kind) rfl (nz rfl (stp_load rfl (H.get 1 rfl) rfl)) ?_
   refine WO.go0 rfl rfl ?_
   refine WS (v := (.bool (y1.1.Kind == 1))) rfl (nz rfl rfl) ?_
   refine WS (v := (.bool (y1.1.Kind == 1))) rfl (nz rfl rfl) ?_
   refine WO.nil ?_
   exact ⟨(kc rfl (kc rfl (kc rfl known_nil))), H, rfl⟩
 ·rintro σ S e ⟨hk, H, rfl⟩
  refine WO.of_known hk ?_
  refine WS (v := (.bool ((y1.2 == 0) && (y1.1.Kind == 1)))) rfl (nz rfl rfl) ?_
  refine WO.split 5 (fun σ' S' e' => Known ([(1, (.ptr i2 0)), (4, (.int .i64 y3.2)), (25, (.bool (((y1.2 == 0) && (y1.1.Kind == 1)) && ((Sl.len y1.1.Kids) == 2))))]) σ' ∧ Hp [] [] S' [(i4, .cells [(.int .i64 y3.1.Kind), (.str y3.1.Attr), (.str y3.1.Value), (encSl eS y3.1.Subs), (encSl e_Api_Filter y3.1.Kids)]), (i2, .cells [(.int .i64 y1.1.Kind), (.str y1.1.Attr), (.str y1.1.Value), (encSl eS y1.1.Subs), (encSl e_Api_Filter y1.1.Kids)])] [] [] ∧ e' = false) ?_ ?_
  ·revert H
   cases hc6 : ((y1.2 == 0) && (y1.1.Kind == 1))
   ·intro H
    refine WO.by rfl rfl rfl ?_
    refine WO.by rfl rfl rfl ?_
    refine WO.by rfl rfl rfl ?_
    refine WO.by rfl rfl rfl ?_
    refine WS (v := .bool false) rfl (nz rfl rfl) ?_
    refine WO.nil ?_
    exact ⟨(kc rfl (kc rfl (kc rfl known_nil))), H, rfl⟩
   ·intro H
    refine WO.go0 rfl rfl ?_
    refine WS (v := .ptr i2 4) rfl (nz rfl rfl) ?_
    refine WO.go0 rfl rfl ?_
    refine WS (v := (encSl e_Api_Filter y1.1.Kids)) rfl (nz rfl (stp_load rfl (H.get 1 rfl) rfl)) ?_
    refine WO.go0 rfl rfl ?_
    refine WS (v := (.int .i64 (Sl.len y1.1.Kids))) rfl (nz rfl (stp_len rfl (isSl_enc _ _) rfl)) ?_
    refine WO.go0 rfl rfl ?_
    refine WS (v := (.bool ((Sl.len y1.1.Kids) == 2))) rfl (nz rfl rfl) ?_
    refine WS (v := (.bool ((Sl.len y1.1.Kids) == 2))) rfl (nz rfl rfl) ?_
    refine WO.nil ?_
    exact ⟨(kc rfl (kc rfl (kc rfl known_nil))), H, rfl⟩
  ·rintro σ S e ⟨hk, H, rfl⟩
   refine WO.of_known hk ?_
   refine WS (v := (.bool (((y1.2 == 0) && (y1.1.Kind == 1)) && ((Sl.len y1.1.Kids) == 2)))) rfl (nz rfl rfl) ?_
   obtain ⟨y11, hy11, hOy11⟩ := bindS h
   refine WO.split 7 (fun σ' S' e' => Known ([(1, (.ptr i2 0)), (4, (.int .i64 y3.2)), (33, (.bool y11))]) σ' ∧ Hp [] [] S' [(i4, .cells [(.int .i64 y3.1.Kind), (.str y3.1.Attr), (.str y3.1.Value), (encSl eS y3.1.Subs), (encSl e_Api_Filter y3.1.Kids)]), (i2, .cells [(.int .i64 y1.1.Kind), (.str y1.1.Attr), (.str y1.1.Value), (encSl eS y1.1.Subs), (encSl e_Api_Filter y1.1.Kids)])] [] [] ∧ e' = false) ?_ ?_
   ·replace h := hy11
    revert H
    cases hc13 : (((y1.2 == 0) && (y1.1.Kind == 1)) && ((Sl.len y1.1.Kids) == 2))
    ·intro H
     replace h := iteF h hc13
     refine WO.by rfl rfl rfl ?_
     refine WO.by rfl rfl rfl ?_
     refine WO.by rfl rfl rfl ?_
     refine WO.by rfl rfl rfl ?_
     refine WO.by rfl rfl rfl ?_
     refine WO.by rfl rfl rfl ?_
     refine WS (v := .bool false) rfl (nz rfl rfl) ?_
     refine WO.nil ?_
     obtain rfl := Option.some.inj h
     exact ⟨(kc rfl (kc rfl (kc rfl known_nil))), (H.sub (.cons_cons _ (.cons_cons _ .slnil)) .slnil .slnil), rfl⟩
    ·intro H
     replace h := iteT h hc13
     refine WO.go0 rfl rfl ?_
     refine WS (v := .ptr i2 4) rfl (nz rfl rfl) ?_
     refine WO.go0 rfl rfl ?_
     refine WS (v := (encSl e_Api_Filter y1.1.Kids)) rfl (nz rfl (stp_load rfl (H.get 1 rfl) rfl)) ?_
     refine WO.go0 rfl rfl ?_
     obtain ⟨y12, hy12, h⟩ := bindS h
     refine WS (v := (.iptr [(.int .i64 y12.Kind), (.str y12.Attr), (.str y12.Value), (encSl eS y12.Subs), (encSl e_Api_Filter y12.Kids)] 0)) rfl (nz rfl (stp_idxAddr rfl (isSl_enc _ _) rfl rfl rfl hy12 (e_Api_Filter_cells _) rfl)) ?_
     refine WO.go0 rfl rfl ?_
     refine WS (v := (.iptr [(.int .i64 y12.Kind), (.str y12.Attr), (.str y12.Value), (encSl eS y12.Subs), (encSl e_Api_Filter y12.Kids)] 0)) rfl (nz rfl rfl) ?_
     refine WO.go0 rfl rfl ?_
     refine WS (v := .int .i64 y12.Kind) rfl (nz rfl rfl) ?_
     refine WO.go0 rfl rfl ?_
     refine WS (v := (.bool (y12.Kind == 8))) rfl (nz rfl rfl) ?_
     refine WS (v := (.bool (y12.Kind == 8))) rfl (nz rfl rfl) ?_
     refine WO.nil ?_
     obtain rfl := Option.some.inj h
     exact ⟨(kc rfl (kc rfl (kc rfl known_nil))), (H.sub (.cons_cons _ (.cons_cons _ .slnil)) .slnil .slnil), rfl⟩
   ·rintro σ S e ⟨hk, H, rfl⟩
    replace h := hOy11
    refine WO.of_known hk ?_
    refine WS (v := .bool y11) rfl (nz rfl rfl) ?_
    obtain ⟨y18, hy18, hOy18⟩ := bindS h
    refine WO.split 8 (fun σ' S' e' => Known ([(1, (.ptr i2 0)), (4, (.int .i64 y3.2)), (42, (.bool y18))]) σ' ∧ Hp [] [] S' [(i4, .cells [(.int .i64 y3.1.Kind), (.str y3.1.Attr), (.str y3.1.Value), (encSl eS y3.1.Subs), (encSl e_Api_Filter y3.1.Kids)]), (i2, .cells [(.int .i64 y1.1.Kind), (.str y1.1.Attr), (.str y1.1.Value), (encSl eS y1.1.Subs), (encSl e_Api_Filter y1.1.Kids)])] [] [] ∧ e' = false) ?_ ?_
    ·replace h := hy18
     revert H
     cases hc20 : y11
     ·intro H
      replace h := iteF h hc20
      refine WO.by rfl rfl rfl ?_
      refine WO.by rfl rfl rfl ?_
      refine WO.by rfl rfl rfl ?_
      refine WO.by rfl rfl rfl ?_
      refine WO.by rfl rfl rfl ?_
      refine WO.by rfl rfl rfl ?_
      refine WO.by rfl rfl rfl ?_
      refine WS (v := .bool false) rfl (nz rfl rfl) ?_
      refine WO.nil ?_
      obtain rfl := Option.some.inj h
      exact ⟨(kc rfl (kc rfl (kc rfl known_nil))), (H.sub (.cons_cons _ (.cons_cons _ .slnil)) .slnil .slnil), rfl⟩
     ·intro H
      replace h := iteT h hc20
      refine WO.go0 rfl rfl ?_
      refine WS (v := .ptr i2 4) rfl (nz rfl rfl) ?_
      refine WO.go0 rfl rfl ?_
      refine WS (v := (encSl e_Api_Filter y1.1.Kids)) rfl (nz rfl (stp_load rfl (H.get 1 rfl) rfl)) ?_
      refine WO.go0 rfl rfl ?_
      obtain ⟨y19, hy19, h⟩ := bindS h
      refine WS (v := (.iptr [(.int .i64 y19.Kind), (.str y19.Attr), (.str y19.Value), (encSl eS y19.Subs), (encSl e_Api_Filter y19.Kids)] 0)) rfl (nz rfl (stp_idxAddr rfl (isSl_enc _ _) rfl rfl rfl hy19 (e_Api_Filter_cells _) rfl)) ?_
      refine WO.go0 rfl rfl ?_
      refine WS (v := (.iptr [(.int .i64 y19.Kind), (.str y19.Attr), (.str y19.Value), (encSl eS y19.Subs), (encSl e_Api_Filter y19.Kids)] 3)) rfl (nz rfl rfl) ?_
      refine WO.go0 rfl rfl ?_
      refine WS (v := (encSl eS y19.Subs)) rfl (nz rfl rfl) ?_
      refine WO.go0 rfl rfl ?_
      refine WS (v := (.int .i64 (Sl.len y19.Subs))) rfl (nz rfl (stp_len rfl (isSl_enc _ _) rfl)) ?_
      refine WO.go0 rfl rfl ?_
      refine WS (v := (.bool ((Sl.len y19.Subs) == 2))) rfl (nz rfl rfl) ?_
      refine WS (v := (.bool ((Sl.len y19.Subs) == 2))) rfl (nz rfl rfl) ?_
      refine WO.nil ?_
      obtain rfl := Option.some.inj h
      exact ⟨(kc rfl (kc rfl (kc rfl known_nil))), (H.sub (.cons_cons _ (.cons_cons _ .slnil)) .slnil .slnil), rfl⟩
    ·rintro σ S e ⟨hk, H, rfl⟩
     replace h := hOy18
     refine WO.of_known hk ?_
     refine WS (v := .bool y18) rfl (nz rfl rfl) ?_
     refine WO.split 3 (fun σ' S' e' => Known ([(1, (.ptr i2 0)), (46, (.bool (y18 && (y3.2 == 18))))]) σ' ∧ Hp [] [] S' [(i4, .cells [(.int .i64 y3.1.Kind), (.str y3.1.Attr), (.str y3.1.Value), (encSl eS y3.1.Subs), (encSl e_Api_Filter y3.1.Kids)]), (i2, .cells [(.int .i64 y1.1.Kind), (.str y1.1.Attr), (.str y1.1.Value), (encSl eS y1.1.Subs), (encSl e_Api_Filter y1.1.Kids)])] [] [] ∧ e' = false) ?_ ?_
     ·revert H
      cases hc21 : y18
      ·intro H
       refine WO.by rfl rfl rfl ?_
       refine WO.by rfl rfl rfl ?_
       refine WS (v := .bool false) rfl (nz rfl rfl) ?_
       refine WO.nil ?_
       exact ⟨(kc rfl (kc rfl known_nil)), H, rfl⟩
      ·intro H
       refine WO.go0 rfl rfl ?_
       refine WS (v := .int .i64 y3.2) rfl (nz rfl rfl) ?_
       refine WO.go0 rfl rfl ?_
       refine WS (v := (.bool (y3.2 == 18))) rfl (nz rfl rfl) ?_
       refine WS (v := (.bool (y3.2 == 18))) rfl (nz rfl rfl) ?_
       refine WO.nil ?_
       exact ⟨(kc rfl (kc rfl known_nil)), H, rfl⟩
     ·rintro σ S e ⟨hk, H, rfl⟩
      refine WO.of_known hk ?_
      refine WS (v := (.bool (y18 && (y3.2 == 18)))) rfl (nz rfl rfl) ?_
      obtain ⟨y26, hy26, hOy26⟩ := bindS h
      refine WO.split 4 (fun σ' S' e' => Known ([(1, (.ptr i2 0)), (51, (.bool y26))]) σ' ∧ Hp [] [] S' [(i4, .cells [(.int .i64 y3.1.Kind), (.str y3.1.Attr), (.str y3.1.Value), (encSl eS y3.1.Subs), (encSl e_Api_Filter y3.1.Kids)]), (i2, .cells [(.int .i64 y1.1.Kind), (.str y1.1.Attr), (.str y1.1.Value), (encSl eS y1.1.Subs), (encSl e_Api_Filter y1.1.Kids)])] [] [] ∧ e' = false) ?_ ?_
      ·replace h := hy26
       revert H
       cases hc28 : (y18 && (y3.2 == 18))
       ·intro H
        replace h := iteF h hc28
        refine WO.by rfl rfl rfl ?_
        refine WO.by rfl rfl rfl ?_
        refine WO.by rfl rfl rfl ?_
        refine WS (v := .bool false) rfl (nz rfl rfl) ?_
        refine WO.nil ?_
        obtain rfl := Option.some.inj h
        exact ⟨(kc rfl (kc rfl known_nil)), (H.sub (.cons_cons _ (.cons_cons _ .slnil)) .slnil .slnil), rfl⟩
       ·intro H
        replace h := iteT h hc28
        refine WO.go0 rfl rfl ?_
        refine WS (v := (.agg [(.int .i64 y1.1.Kind), (.str y1.1.Attr), (.str y1.1.Value), (encSl eS y1.1.Subs), (encSl e_Api_Filter y1.1.Kids)])) rfl (nz rfl (stp_load rfl (H.get 1 rfl) rfl)) ?_
        refine WO.go0 rfl rfl ?_
        obtain ⟨y27, hy27, h⟩ := bindS h
        refine WS (v := .str y27) rfl (nz rfl (stp_call (vs := [(.agg [(.int .i64 y1.1.Kind), (.str y1.1.Attr), (.str y1.1.Value), (encSl eS y1.1.Subs), (encSl e_Api_Filter y1.1.Kids)])]) rfl rfl (s13 _ hy27 (by simp only [st_agg, List.map_cons, List.map_nil, st1_int, st1_str, strip1_enc, e_Api_Filter_eq, tupled]) _))) ?_
        refine WO.go0 rfl rfl ?_
        refine WS (v := (.bool (y27 == [40, 38, 40, 99, 110, 61, 97, 42, 41, 40, 33, 40, 115, 110, 61, 98, 41, 41, 41]))) rfl (nz rfl rfl) ?_
        refine WS (v := (.bool (y27 == [40, 38, 40, 99, 110, 61, 97, 42, 41, 40, 33, 40, 115, 110, 61, 98, 41, 41, 41]))) rfl (nz rfl rfl) ?_
        refine WO.nil ?_
        obtain rfl := Option.some.inj h
        exact ⟨(kc rfl (kc rfl known_nil)), (H.sub (.cons_cons _ (.cons_cons _ .slnil)) .slnil .slnil), rfl⟩
      ·rintro σ S e ⟨hk, H, rfl⟩
       replace h := hOy26
       refine WO.of_known hk ?_
       refine WS (v := .bool y26) rfl (nz rfl rfl) ?_
       obtain ⟨y33, hy33, hOy33⟩ := bindS h
       refine WO.split 3 (fun σ' S' e' => Known ([(1, (.ptr i2 0)), (55, (.bool y33))]) σ' ∧ Hp [] [] S' [(i4, .cells [(.int .i64 y3.1.Kind), (.str y3.1.Attr), (.str y3.1.Value), (encSl eS y3.1.Subs), (encSl e_Api_Filter y3.1.Kids)]), (i2, .cells [(.int .i64 y1.1.Kind), (.str y1.1.Attr), (.str y1.1.Value), (encSl eS y1.1.Subs), (encSl e_Api_Filter y1.1.Kids)])] [] [] ∧ e' = false) ?_ ?_
       ·replace h := hy33
        revert H
        cases hc35 : y26
        ·intro H
         replace h := iteF h hc35
         refine WO.by rfl rfl rfl ?_
         refine WO.by rfl rfl rfl ?_
         refine WS (v := .bool false) rfl (nz rfl rfl) ?_
         refine WO.nil ?_
         obtain rfl := Option.some.inj h
         exact ⟨(kc rfl (kc rfl known_nil)), (H.sub (.cons_cons _ (.cons_cons _ .slnil)) .slnil .slnil), rfl⟩
        ·intro H
         replace h := iteT h hc35
         refine WO.go0 rfl rfl ?_
         refine WS (v := (.agg [(.int .i64 y1.1.Kind), (.str y1.1.Attr), (.str y1.1.Value), (encSl eS y1.1.Subs), (encSl e_Api_Filter y1.1.Kids)])) rfl (nz rfl (stp_load rfl (H.get 1 rfl) rfl)) ?_
         refine WO.go0 rfl rfl ?_
         obtain ⟨y34, hy34, h⟩ := bindS h
         refine WS (v := .bool y34) rfl (nz rfl (stp_call (vs := [(.agg [(.int .i64 y1.1.Kind), (.str y1.1.Attr), (.str y1.1.Value), (encSl eS y1.1.Subs), (encSl e_Api_Filter y1.1.Kids)])]) rfl rfl (s12 _ hy34 (by simp only [st_agg, List.map_cons, List.map_nil, st1_int, st1_str, strip1_enc, e_Api_Filter_eq, tupled]) _))) ?_
         refine WS (v := .bool y34) rfl (nz rfl rfl) ?_
         refine WO.nil ?_
         obtain rfl := Option.some.inj h
         exact ⟨(kc rfl (kc rfl known_nil)), (H.sub (.cons_cons _ (.cons_cons _ .slnil)) .slnil .slnil), rfl⟩
       ·rintro σ S e ⟨hk, H, rfl⟩
        replace h := hOy33
        refine WO.of_known hk ?_
        refine WS (v := .bool y33) rfl (nz rfl rfl) ?_
        obtain ⟨y40, hy40, hOy40⟩ := bindS h
        refine WO.split 4 (fun σ' S' e' => Known ([(1, (.ptr i2 0)), (60, (.bool y40))]) σ' ∧ Hp [] [] S' [(i4, .cells [(.int .i64 y3.1.Kind), (.str y3.1.Attr), (.str y3.1.Value), (encSl eS y3.1.Subs), (encSl e_Api_Filter y3.1.Kids)]), (i2, .cells [(.int .i64 y1.1.Kind), (.str y1.1.Attr), (.str y1.1.Value), (encSl eS y1.1.Subs), (encSl e_Api_Filter y1.1.Kids)])] [] [] ∧ e' = false) ?_ ?_
        ·replace h := hy40
         revert H
         cases hc42 : y33
         ·intro H
          replace h := iteF h hc42
          refine WO.by rfl rfl rfl ?_
          refine WO.by rfl rfl rfl ?_
          refine WO.by rfl rfl rfl ?_
          refine WS (v := .bool false) rfl (nz rfl rfl) ?_
          refine WO.nil ?_
          obtain rfl := Option.some.inj h
          exact ⟨(kc rfl (kc rfl known_nil)), (H.sub (.cons_cons _ (.cons_cons _ .slnil)) .slnil .slnil), rfl⟩
         ·intro H
          replace h := iteT h hc42
          refine WO.go0 rfl rfl ?_
          refine WS (v := (.agg [(.int .i64 0), (.str []), (.str []), .nils, .nils])) rfl (nz rfl (stp_build (ti := ty25) rfl rfl rfl rfl rfl rfl)) ?_
          refine WO.go0 rfl rfl ?_
          obtain ⟨y41, hy41, h⟩ := bindS h
          refine WS (v := .bool y41) rfl (nz rfl (stp_call (vs := [(.agg [(.int .i64 0), (.str []), (.str []), .nils, .nils])]) rfl rfl (s12 _ hy41 (by simp only [st_agg, List.map_cons, List.map_nil, st1_int, st1_str, st1_nils, encSl_none, e_Api_Filter_eq, tupled]) _))) ?_
          refine WO.go0 rfl rfl ?_
          refine WS (v := (.bool (!y41))) rfl (nz rfl rfl) ?_
          refine WS (v := (.bool (!y41))) rfl (nz rfl rfl) ?_
          refine WO.nil ?_
          obtain rfl := Option.some.inj h
          exact ⟨(kc rfl (kc rfl known_nil)), (H.sub (.cons_cons _ (.cons_cons _ .slnil)) .slnil .slnil), rfl⟩
        ·rintro σ S e ⟨hk, H, rfl⟩
         replace h := hOy40
         refine WO.of_known hk ?_
         refine WS (v := .bool y40) rfl (nz rfl rfl) ?_
         obtain ⟨y47, hy47, hOy47⟩ := bindS h
         refine WO.split 4 (fun σ' S' e' => Known ([(1, (.ptr i2 0)), (65, (.bool y47))]) σ' ∧ Hp [] [] S' [(i4, .cells [(.int .i64 y3.1.Kind), (.str y3.1.Attr), (.str y3.1.Value), (encSl eS y3.1.Subs), (encSl e_Api_Filter y3.1.Kids)]), (i2, .cells [(.int .i64 y1.1.Kind), (.str y1.1.Attr), (.str y1.1.Value), (encSl eS y1.1.Subs), (encSl e_Api_Filter y1.1.Kids)])] [] [] ∧ e' = false) ?_ ?_
         ·replace h := hy47
          revert H
          cases hc49 : y40
          ·intro H
           replace h := iteF h hc49
           refine WO.by rfl rfl rfl ?_
           refine WO.by rfl rfl rfl ?_
           refine WO.by rfl rfl rfl ?_
           refine WS (v := .bool false) rfl (nz rfl rfl) ?_
           refine WO.nil ?_
           obtain rfl := Option.some.inj h
           exact ⟨(kc rfl (kc rfl known_nil)), (H.sub (.cons_cons _ (.cons_cons _ .slnil)) .slnil .slnil), rfl⟩
          ·intro H
           replace h := iteT h hc49
           refine WO.go0 rfl rfl ?_
           refine WS (v := (.agg [(.int .i64 y1.1.Kind), (.str y1.1.Attr), (.str y1.1.Value), (encSl eS y1.1.Subs), (encSl e_Api_Filter y1.1.Kids)])) rfl (nz rfl (stp_load rfl (H.get 1 rfl) rfl)) ?_
           refine WO.go0 rfl rfl ?_
           obtain ⟨y48, hy48, h⟩ := bindS h
           refine WS (v := .int .i64 y48) rfl (nz rfl (stp_call (vs := [(.agg [(.int .i64 y1.1.Kind), (.str y1.1.Attr), (.str y1.1.Value), (encSl eS y1.1.Subs), (encSl e_Api_Filter y1.1.Kids)])]) rfl rfl (s14 _ hy48 (by simp only [st_agg, List.map_cons, List.map_nil, st1_int, st1_str, strip1_enc, e_Api_Filter_eq, tupled]) _))) ?_
           refine WO.go0 rfl rfl ?_
           refine WS (v := (.bool (y48 == 4))) rfl (nz rfl rfl) ?_
           refine WS (v := (.bool (y48 == 4))) rfl (nz rfl rfl) ?_
           refine WO.nil ?_
           obtain rfl := Option.some.inj h
           exact ⟨(kc rfl (kc rfl known_nil)), (H.sub (.cons_cons _ (.cons_cons _ .slnil)) .slnil .slnil), rfl⟩
         ·rintro σ S e ⟨hk, H, rfl⟩
          replace h := hOy47
          refine WO.of_known hk ?_
          refine WS (v := .bool y47) rfl (nz rfl rfl) ?_
          obtain ⟨y54, hy54, hOy54⟩ := bindS h
          refine WO.split 4 (fun σ' S' e' => Known ([(70, (.bool y54))]) σ' ∧ Hp [] [] S' [(i4, .cells [(.int .i64 y3.1.Kind), (.str y3.1.Attr), (.str y3.1.Value), (encSl eS y3.1.Subs), (encSl e_Api_Filter y3.1.Kids)]), (i2, .cells [(.int .i64 y1.1.Kind), (.str y1.1.Attr), (.str y1.1.Value), (encSl eS y1.1.Subs), (encSl e_Api_Filter y1.1.Kids)])] [] [] ∧ e' = false) ?_ ?_
          ·replace h := hy54
           revert H
           cases hc56 : y47
           ·intro H
            replace h := iteF h hc56
            refine WO.by rfl rfl rfl ?_
            refine WO.by rfl rfl rfl ?_
            refine WO.by rfl rfl rfl ?_
            refine WS (v := .bool false) rfl (nz rfl rfl) ?_
            refine WO.nil ?_
            obtain rfl := Option.some.inj h
            exact ⟨(kc rfl known_nil), (H.sub (.cons_cons _ (.cons_cons _ .slnil)) .slnil .slnil), rfl⟩
           ·intro H
            replace h := iteT h hc56
            refine WO.go0 rfl rfl ?_
            refine WS (v := (.agg [(.int .i64 y1.1.Kind), (.str y1.1.Attr), (.str y1.1.Value), (encSl eS y1.1.Subs), (encSl e_Api_Filter y1.1.Kids)])) rfl (nz rfl (stp_load rfl (H.get 1 rfl) rfl)) ?_
            refine WO.go0 rfl rfl ?_
            refine WS (v := (.agg [(.int .i64 y1.1.Kind), (.str y1.1.Attr), (.str y1.1.Value), (encSl eS y1.1.Subs), (encSl e_Api_Filter y1.1.Kids)])) rfl (nz rfl (stp_load rfl (H.get 1 rfl) rfl)) ?_
            refine WO.go0 rfl rfl ?_
            obtain ⟨y55, hy55, h⟩ := bindS h
            refine WS (v := .bool y55) rfl (nz rfl (stp_call (vs := [(.agg [(.int .i64 y1.1.Kind), (.str y1.1.Attr), (.str y1.1.Value), (encSl eS y1.1.Subs), (encSl e_Api_Filter y1.1.Kids)]), (.agg [(.int .i64 y1.1.Kind), (.str y1.1.Attr), (.str y1.1.Value), (encSl eS y1.1.Subs), (encSl e_Api_Filter y1.1.Kids)])]) rfl rfl (s16 _ hy55 (by simp only [st_agg, List.map_cons, List.map_nil, st1_int, st1_str, strip1_enc, e_Api_Filter_eq, tupled]) _))) ?_
            refine WS (v := .bool y55) rfl (nz rfl rfl) ?_
            refine WO.nil ?_
            obtain rfl := Option.some.inj h
            exact ⟨(kc rfl known_nil), (H.sub (.cons_cons _ (.cons_cons _ .slnil)) .slnil .slnil), rfl⟩
          ·rintro σ S e ⟨hk, H, rfl⟩
           replace h := hOy54
           refine WO.of_known hk ?_
           refine WS (v := .bool y54) rfl (nz rfl rfl) ?_
           refine WO.nil ?_
           refine WC.ret ?_
           obtain rfl := Option.some.inj h
           refine KB.ret (vs := [(.bool y54)]) (res_tmp rfl res_nil) (fl_cons' rfl rfl) ?_
           exact rfl
end Go.Proofs.Ythkjepoaddfoiaa.M
