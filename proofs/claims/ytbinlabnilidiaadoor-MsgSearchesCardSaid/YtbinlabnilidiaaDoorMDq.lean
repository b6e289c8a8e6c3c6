/- Part of the proof: the runs of functions on the abstract machine. -/
import Derived.Test.YtbinlabnilidiaaDoorPamM4
import Derived.Test.YtbinlabnilidiaaDoorFns
import Derived.Test.YtbinlabnilidiaaDoorMDe
import Derived.Test.YtbinlabnilidiaaDoorMDc
import Derived.Test.YtbinlabnilidiaaDoorMDc1
import Derived.Test.YtbinlabnilidiaaDoorMDw
import Derived.Test.YtbinlabnilidiaaDoorMDr
import Derived.Test.YtbinlabnilidiaaDoorMDd
import Derived.Test.YtbinlabnilidiaaDoorMDd1
import Derived.Test.YtbinlabnilidiaaDoorMDk
namespace Go.Proofs.YtbinlabnilidiaaDoor.M
open Go Go.Pam Go.RowKit Go.WideShapes
set_option maxRecDepth 8000
set_option linter.unusedVariables false
set_option linter.unusedSimpArgs false

def F4_L0 (k : Nat) (a33 : Str) (a34 : Int) (a35 : Int) (a36 : Sl Str) (a37 : Str) : Nat → Int → Option (Out Bool Int)
 | 0, _ => none
 | n + 1, x38 =>
  if decide (x38 < (Sl.len a36)) then
  Option.bind (Sl.at? a36 x38) fun y43 =>
  if decide ((Str.len y43) > 100) then
  some (Out.ret true)
  else
  F4_L0 k a33 a34 a35 a36 a37 n (ad .i64 x38 1)
  else
  some (Out.brk x38)
def F4 (k : Nat) (a0 : Str) (a1 : Int) (a2 : Int) (a3 : Sl Str) (a4 : Str) : Option Bool :=
 Option.bind (F5 k ) fun y1 =>
 if !y1 then
 some false
 else
 if ((decide ((Str.len a0) > 400)) || (decide ((Sl.len a3) > 12))) || (decide ((Str.len a4) > 60)) then
 some true
 else
 Option.bind (F4_L0 k a0 a1 a2 a3 a4 k 0) fun y47 =>
 match y47 with
 | .ret y47r => some y47r
 | .brk y47b =>
 Option.bind (rem? a1 3) fun z50 =>
 Option.bind (F6 k (Api_Msg.mk 7 3 0 a0 0 [] (cv .i64 z50) (cv .i64 a2) (Api_Filter.mk 3 [] [] none (some [(Api_Filter.mk 4 [99, 110] a4 none none)])) a3 none [] false false [] [] [] 0 [])) fun y52 =>
 Option.bind (F7 k y52.1) fun y53 =>
 Option.bind (if (y52.2 == 0) && (y53.2 == 0) then
 Option.bind (F8 k y53.1 (Api_Msg.mk 7 3 0 a0 0 [] (cv .i64 z50) (cv .i64 a2) (Api_Filter.mk 3 [] [] none (some [(Api_Filter.mk 4 [99, 110] a4 none none)])) a3 none [] false false [] [] [] 0 [])) fun y61 =>
 some y61
 else
 some false) fun y60 =>
 Option.bind (if y60 then
 Option.bind (Sl.at? y53.1.Filter.Kids 0) fun y68 =>
 some (y68.Value == a4)
 else
 some false) fun y67 =>
 Option.bind (if y67 then
 Option.bind (F9 k (Api_Msg.mk 7 3 0 a0 0 [] (cv .i64 z50) (cv .i64 a2) (Api_Filter.mk 3 [] [] none (some [(Api_Filter.mk 4 [99, 110] a4 none none)])) a3 none [] false false [] [] [] 0 [])) fun y75 =>
 some y75
 else
 some false) fun y74 =>
 some y74
theorem l4_L0 {k : Nat} {a33 : Str} {a34 : Int} {a35 : Int} {a36 : Sl Str} {a37 : Str} {S0 : List SObj} {R : List Nat} {K : KX}  {o : Out Bool Int}
  (hret : ∀ r : Bool, o = .ret r → EK [(10, (.bool r))] S0 R [] [] [] (K .ret))
  (hbrk : ∀ y : Int, o = .brk y → EK [(0, (.str a33)), (1, (.int .u8 a34)), (2, (.int .u16 a35)), (3, (encSl eS a36)), (4, (.str a37))] S0 R [] [] [] (K (.exit 0))) :
  ∀ {n : Nat} {x38 : Int}, F4_L0 k a33 a34 a35 a36 a37 n x38 = some o → ∀ {σ : Nat → PV} {S : List SObj}, Known [(0, (.str a33)), (1, (.int .u8 a34)), (2, (.int .u16 a35)), (3, (encSl eS a36)), (4, (.str a37)), (11, (.int .i64 x38))] σ → Hp S0 R S [] [] [] → WC env ⟨93, S0.length⟩ (.loop pc4L0) σ S false K := by
 intro n
 induction n with
 | zero => intro _ h; cases h
 | succ n ih =>
  intro x38 h σ S  hk H
  rw [F4_L0] at h
  refine WC.loop <| WC.of_known hk <| WC.seq <| WC.seqR <| us 2 rfl <| wl rfl rfl rfl <| us 1 rfl <| WO.nil ?_
  rcases iteS h with ⟨hc46, h⟩ | ⟨hc46, h⟩
  refine WC.condT rfl hc46 <| WC.skip <| KX.seq_n <| WC.seq <| WC.block <| WC.seqR <| us 2 rfl ?_
  obtain ⟨y43, hy43, h⟩ := bindS h
  refine w (.iptr [(.str y43)] 0) rfl (nz rfl (stp_idxAddr rfl (isSl_enc _ _) rfl rfl rfl hy43 rfl rfl)) <| us 3 rfl <| WO.nil ?_
  rcases iteS h with ⟨hc45, h⟩ | ⟨hc45, h⟩
  refine WC.condT rfl hc45 <| WC.seqR <| us 1 rfl <| WO.nil <| WC.ret <| KX.block_r <| KX.seq_r <| KX.seq_r ?_
  have h := oi h; subst h
  exact hret _ rfl kn (hs H)
  refine WC.condF rfl hc45 <| WC.skip <| KX.block_n <| KX.seq_n <| WC.region <| us 3 rfl <| WO.nil <| KX.seq_n ?_
  exact ih h  kn (hs H)
  refine WC.condF rfl hc46 <| WC.exit <| KX.seq_x <| KX.seq_x ?_
  have h := oi h; subst h
  exact hbrk _ rfl  kn (hs H)
theorem s4 : ∀ k : Nat, ∀ {a0 : Str} {a1 : Int} {a2 : Int} {a3 : Sl Str} {a4 : Str} {r : Bool}, F4 k a0 a1 a2 a3 a4 = some r → Q 4 [(.str a0), (.int .u8 a1), (.int .u16 a2), (encSl eS a3), (.str a4)] (.bool r) := by
 intro k a0 a1 a2 a3 a4 r h
 unfold F4 at h
 refine Qe.go (pf := fn4) rfl rfl (Nat.le_of_ble_eq_true rfl) (by simp [PV.clean, cleanL, clean_encSl clean_eS]) rfl rfl fun H => ?_
 refine WC.seqR <| us 1 rfl <| WO.nil <| WC.seq <| WC.seqR ?_
 obtain ⟨y1, hy1, h⟩ := bindS h
 refine cl (.bool y1) [] rfl rfl rfl rfl (s5 _ hy1 rfl) <| us 1 rfl <| WO.nil ?_
 rcases iteS h with ⟨hc78, h⟩ | ⟨hc78, h⟩
 refine WC.condT rfl hc78 <| WC.seqR <| us 1 rfl <| WO.nil <| WC.ret <| KX.seq_r ?_
 have h := oi h; subst h
 exact kr (.bool false) rfl rfl rfl
 refine WC.condF rfl hc78 <| WC.skip <| KX.seq_n <| WC.seq <| WC.seqR <| us 2 rfl <| w (.bool (decide ((Str.len a0) > 400))) rfl rfl <| w (.bool (decide ((Str.len a0) > 400))) rfl rfl ?_
 refine WO.split 4 (SH H [(0, (.str a0)), (1, (.int .u8 a1)), (2, (.int .u16 a2)), (3, (encSl eS a3)), (4, (.str a4)), (27, (.bool ((decide ((Str.len a0) > 400)) || (decide ((Sl.len a3) > 12)))))]) ?_ ?_
 revert H
 cases hc3 : (decide ((Str.len a0) > 400))
 intro H
 refine us 1 rfl <| WO.go0 rfl rfl <| wl rfl rfl rfl <| us 2 rfl <| WO.nil ?_
 exact kf H
 intro H
 refine us 4 rfl <| WO.nil ?_
 exact kf H
 rintro σ S e ⟨hk, H, rfl⟩
 refine WO.of_known hk <| w (.bool ((decide ((Str.len a0) > 400)) || (decide ((Sl.len a3) > 12)))) rfl rfl ?_
 refine WO.split 4 (SH H [(0, (.str a0)), (1, (.int .u8 a1)), (2, (.int .u16 a2)), (3, (encSl eS a3)), (4, (.str a4)), (32, (.bool (((decide ((Str.len a0) > 400)) || (decide ((Sl.len a3) > 12))) || (decide ((Str.len a4) > 60)))))]) ?_ ?_
 revert H
 cases hc4 : ((decide ((Str.len a0) > 400)) || (decide ((Sl.len a3) > 12)))
 intro H
 refine us 4 rfl <| WO.nil ?_
 exact kf H
 intro H
 refine us 4 rfl <| WO.nil ?_
 exact kf H
 rintro σ S e ⟨hk, H, rfl⟩
 refine WO.of_known hk <| WO.nil ?_
 rcases iteS h with ⟨hc77, h⟩ | ⟨hc77, h⟩
 refine WC.condT rfl hc77 <| WC.seqR <| us 1 rfl <| WO.nil <| WC.ret <| KX.seq_r ?_
 have h := oi h; subst h
 exact kr (.bool true) rfl rfl rfl
 refine WC.condF rfl hc77 <| WC.skip <| KX.seq_n <| WC.seq <| WC.seqR <| us 1 rfl <| WO.nil ?_
 obtain ⟨y47, hy47, hOy47⟩ := bindS h
 refine WC.block ?_
 refine l4_L0 ?_ ?_ hy47  kn (hs H)
 intro y47r he σ S  hk H; subst he; replace h := hOy47; dsimp only at h
 refine KX.of_known hk <| KX.block_r <| KX.seq_r ?_
 have h := oi h; subst h
 exact kr (.bool y47r) rfl rfl rfl
 intro y47b he σ S  hk H; subst he; replace h := hOy47; dsimp only at h
 refine KX.of_known hk <| KX.block_x <| KX.seq_n <| WC.seqR <| us 1 rfl <| w (.agg [(.int .i64 4), (.str [99, 110]), (.str a4), .nils, .nils]) rfl (nz rfl (stp_build (ti := ty28) rfl rfl rfl rfl rfl (fill_cons rfl rfl rfl rfl (Nat.le_of_ble_eq_true rfl) rfl (fill_cons rfl rfl rfl rfl (Nat.le_of_ble_eq_true rfl) rfl (fill_cons rfl rfl rfl rfl (Nat.le_of_ble_eq_true rfl) rfl rfl))))) <| WS rfl (nz rfl (stp_buildSlice (ys := [(Api_Filter.mk 4 [99, 110] a4 none none)]) (f := e_Api_Filter) (parts := [(0, (.agg [(.int .i64 4), (.str [99, 110]), (.str a4), .nils, .nils]))]) rfl rfl rfl rfl rfl (by simp only [st_agg, List.map_cons, List.map_nil, st1_int, st1_str, st1_nils, encSl_none, e_Api_Filter_eq, tupled]) (fc ⟨rfl, rfl⟩ (fun p hp => nomatch hp)) rfl)) ?_
 have hv48 : IsSl e_Api_Filter (some [(Api_Filter.mk 4 [99, 110] a4 none none)]) _ := ⟨.full, rfl⟩
 refine w (.agg [(.int .i64 3), (.str []), (.str []), .nils, (.lst (List.map e_Api_Filter [(Api_Filter.mk 4 [99, 110] a4 none none)]) .full)]) rfl (nz (fo rfl (fz_tmp' hv48.frz rfl)) (stp_build (ti := ty28) rfl rfl rfl rfl rfl (fill_cons rfl rfl rfl rfl (Nat.le_of_ble_eq_true rfl) rfl (fill_cons rfl hv48.one.1 hv48.one.2 rfl (Nat.le_of_ble_eq_true rfl) rfl rfl)))) <| WO.alloc' (ti := ty28) rfl rfl rfl rfl H ?_
 intro i49 S hi49 H
 refine wos 0 H hi49 rfl rfl rfl rfl rfl rfl rfl rfl rfl rfl ?_
 intro S H
 refine WO.nil <| WC.seqR <| us 2 rfl ?_
 obtain ⟨z50, hz50, h⟩ := bindS h
 refine w (.int .u8 z50) rfl (nz rfl (stp_rem rfl rfl hz50)) <| us 3 rfl <| wg H 0 rfl rfl rfl rfl <| us 1 rfl <| w (.agg [(.int .i64 7), (.int .i64 3), (.int .i64 0), (.str a0), (.int .i64 0), (.str []), (.int .i64 (cv .i64 z50)), (.int .i64 (cv .i64 a2)), (.int .i64 3), (.str []), (.str []), .nils, (.lst (List.map e_Api_Filter [(Api_Filter.mk 4 [99, 110] a4 none none)]) .full), (encSl eS a3), .nils, (.str []), (.bool false), (.bool false), (.str []), (.str []), (.str []), (.int .i64 0), (.str [])]) rfl (nz (fo rfl (fo rfl (fz_tmp' rfl (fz_tmp' rfl (fz_tmp' rfl (fz_tmp' rfl (fe rfl rfl))))))) (stp_build (ti := ty31) rfl rfl rfl rfl rfl (fill_cons rfl rfl rfl rfl (Nat.le_of_ble_eq_true rfl) rfl (fill_cons rfl rfl rfl rfl (Nat.le_of_ble_eq_true rfl) rfl (fill_cons rfl rfl rfl rfl (Nat.le_of_ble_eq_true rfl) rfl (fill_cons rfl rfl rfl rfl (Nat.le_of_ble_eq_true rfl) rfl (fill_cons rfl rfl rfl rfl (Nat.le_of_ble_eq_true rfl) rfl (fill_cons rfl rfl rfl rfl (Nat.le_of_ble_eq_true rfl) rfl (fill_cons rfl (isSl_enc _ _).one.1 (isSl_enc _ _).one.2 rfl (Nat.le_of_ble_eq_true rfl) rfl rfl))))))))) <| WO.alloc' (ti := ty31) rfl rfl rfl rfl H ?_
 intro i51 S hi51 H
 refine wos 0 H hi51 rfl rfl rfl rfl rfl rfl rfl rfl rfl rfl ?_
 intro S H
 refine WO.nil <| WC.seqR <| wg H 0 rfl rfl rfl rfl ?_
 obtain ⟨y52, hy52, h⟩ := bindS h
 refine cl (.tup [(.str y52.1), (.int .i64 y52.2)]) [(.agg [(.int .i64 7), (.int .i64 3), (.int .i64 0), (.str a0), (.int .i64 0), (.str []), (.int .i64 (cv .i64 z50)), (.int .i64 (cv .i64 a2)), (.int .i64 3), (.str []), (.str []), .nils, (.lst (List.map e_Api_Filter [(Api_Filter.mk 4 [99, 110] a4 none none)]) .full), (encSl eS a3), .nils, (.str []), (.bool false), (.bool false), (.str []), (.str []), (.str []), (.int .i64 0), (.str [])])] rfl rfl rfl rfl (s6 _ hy52 (by simp only [st_agg, List.map_cons, List.map_nil, st1_int, st1_str, st1_nils, encSl_none, hv48.strip1, st1_lst, encSl_some, eI, eB, eS, strip1_enc, st1_bool, tupled, e_Api_Msg] <;> rfl)) <| us 5 rfl <| WO.nil <| WC.seqR <| us 1 rfl ?_
 obtain ⟨y53, hy53, h⟩ := bindS h
 refine cl (.tup [(.agg (c_Api_Msg y53.1)), (.int .i64 y53.2)]) [(.str y52.1)] rfl rfl rfl rfl (s7 _ hy53 rfl) <| us 3 rfl <| WO.alloc' (ti := ty31) rfl rfl rfl rfl H ?_
 intro i54 S hi54 H
 refine wos 0 H hi54 rfl rfl rfl rfl rfl rfl rfl rfl rfl rfl ?_
 intro S H
 replace H : Hp [] [] _ [(i54, .cells (c_Api_Msg y53.1)), (i51, .cells [(.int .i64 7), (.int .i64 3), (.int .i64 0), (.str a0), (.int .i64 0), (.str []), (.int .i64 (cv .i64 z50)), (.int .i64 (cv .i64 a2)), (.int .i64 3), (.str []), (.str []), .nils, (.lst (List.map e_Api_Filter [(Api_Filter.mk 4 [99, 110] a4 none none)]) .full), (encSl eS a3), .nils, (.str []), (.bool false), (.bool false), (.str []), (.str []), (.str []), (.int .i64 0), (.str [])]), (i49, .cells [(.int .i64 3), (.str []), (.str []), .nils, (.lst (List.map e_Api_Filter [(Api_Filter.mk 4 [99, 110] a4 none none)]) .full)])] [] [] := H
 refine us 1 rfl <| WO.nil <| WC.seqR <| us 1 rfl <| w (.bool (y52.2 == 0)) rfl rfl <| w (.bool (y52.2 == 0)) rfl rfl ?_
 refine WO.split 3 (SH H [(4, (.str a4)), (13, (.ptr i51 0)), (16, (.ptr i54 0)), (73, (.bool ((y52.2 == 0) && (y53.2 == 0))))]) ?_ ?_
 revert H
 cases hc55 : (y52.2 == 0)
 intro H
 refine us 3 rfl <| WO.nil ?_
 exact kf H
 intro H
 refine us 3 rfl <| WO.nil ?_
 exact kf H
 rintro σ S e ⟨hk, H, rfl⟩
 refine WO.of_known hk <| w (.bool ((y52.2 == 0) && (y53.2 == 0))) rfl rfl ?_
 obtain ⟨y60, hy60, hOy60⟩ := bindS h
 refine WO.split 4 (SJ [(4, (.str a4)), (13, (.ptr i51 0)), (16, (.ptr i54 0)), (78, (.bool y60))] [] [] [(i54, .cells (c_Api_Msg y53.1)), (i51, .cells [(.int .i64 7), (.int .i64 3), (.int .i64 0), (.str a0), (.int .i64 0), (.str []), (.int .i64 (cv .i64 z50)), (.int .i64 (cv .i64 a2)), (.int .i64 3), (.str []), (.str []), .nils, (.lst (List.map e_Api_Filter [(Api_Filter.mk 4 [99, 110] a4 none none)]) .full), (encSl eS a3), .nils, (.str []), (.bool false), (.bool false), (.str []), (.str []), (.str []), (.int .i64 0), (.str [])]), (i49, .cells [(.int .i64 3), (.str []), (.str []), .nils, (.lst (List.map e_Api_Filter [(Api_Filter.mk 4 [99, 110] a4 none none)]) .full)])] [] [] false) ?_ ?_
 replace h := hy60
 revert H
 cases hc62 : ((y52.2 == 0) && (y53.2 == 0))
 intro H
 replace h := iteF h hc62
 refine us 4 rfl <| WO.nil ?_
 have h := oi h; subst h
 exact kh H
 intro H
 replace h := iteT h hc62
 refine WO.go0 rfl rfl <| wg H 0 rfl rfl rfl rfl <| WO.go0 rfl rfl <| wg H 1 rfl rfl rfl rfl <| WO.go0 rfl rfl ?_
 obtain ⟨y61, hy61, h⟩ := bindS h
 refine cl (.bool y61) [(.agg (c_Api_Msg y53.1)), (.agg [(.int .i64 7), (.int .i64 3), (.int .i64 0), (.str a0), (.int .i64 0), (.str []), (.int .i64 (cv .i64 z50)), (.int .i64 (cv .i64 a2)), (.int .i64 3), (.str []), (.str []), .nils, (.lst (List.map e_Api_Filter [(Api_Filter.mk 4 [99, 110] a4 none none)]) .full), (encSl eS a3), .nils, (.str []), (.bool false), (.bool false), (.str []), (.str []), (.str []), (.int .i64 0), (.str [])])] rfl rfl rfl rfl (s8 _ hy61 (by simp only [st_agg, List.map_cons, List.map_nil, st1_int, st1_str, strip1_enc, st1_bool, st1_nils, encSl_none, hv48.strip1, st1_lst, encSl_some, eI, eB, eS, tupled, e_Api_Msg] <;> rfl)) <| us 1 rfl <| WO.nil ?_
 have h := oi h; subst h
 exact kh H
 rintro σ S e ⟨hk, H, rfl⟩
 replace h := hOy60
 refine WO.of_known hk <| us 1 rfl ?_
 obtain ⟨y67, hy67, hOy67⟩ := bindS h
 refine WO.split 9 (SJ [(13, (.ptr i51 0)), (88, (.bool y67))] [] [] [(i54, .cells (c_Api_Msg y53.1)), (i51, .cells [(.int .i64 7), (.int .i64 3), (.int .i64 0), (.str a0), (.int .i64 0), (.str []), (.int .i64 (cv .i64 z50)), (.int .i64 (cv .i64 a2)), (.int .i64 3), (.str []), (.str []), .nils, (.lst (List.map e_Api_Filter [(Api_Filter.mk 4 [99, 110] a4 none none)]) .full), (encSl eS a3), .nils, (.str []), (.bool false), (.bool false), (.str []), (.str []), (.str []), (.int .i64 0), (.str [])]), (i49, .cells [(.int .i64 3), (.str []), (.str []), .nils, (.lst (List.map e_Api_Filter [(Api_Filter.mk 4 [99, 110] a4 none none)]) .full)])] [] [] false) ?_ ?_
 replace h := hy67
 revert H
 cases hc69 : y60
 intro H
 replace h := iteF h hc69
 refine us 9 rfl <| WO.nil ?_
 have h := oi h; subst h
 exact kh H
 intro H
 replace h := iteT h hc69
 refine us 2 rfl <| WO.go0 rfl rfl <| wg H 0 rfl rfl rfl rfl <| WO.go0 rfl rfl ?_
 obtain ⟨y68, hy68, h⟩ := bindS h
 refine w (.iptr (c_Api_Filter y68) 0) rfl (nz rfl (stp_idxAddr rfl (isSl_enc _ _) rfl rfl rfl hy68 (e_Api_Filter_cells _) rfl)) <| us 5 rfl <| WO.nil ?_
 have h := oi h; subst h
 exact kh H
 rintro σ S e ⟨hk, H, rfl⟩
 replace h := hOy67
 refine WO.of_known hk <| us 1 rfl ?_
 obtain ⟨y74, hy74, hOy74⟩ := bindS h
 refine WO.split 3 (SJ [(92, (.bool y74))] [] [] [(i54, .cells (c_Api_Msg y53.1)), (i51, .cells [(.int .i64 7), (.int .i64 3), (.int .i64 0), (.str a0), (.int .i64 0), (.str []), (.int .i64 (cv .i64 z50)), (.int .i64 (cv .i64 a2)), (.int .i64 3), (.str []), (.str []), .nils, (.lst (List.map e_Api_Filter [(Api_Filter.mk 4 [99, 110] a4 none none)]) .full), (encSl eS a3), .nils, (.str []), (.bool false), (.bool false), (.str []), (.str []), (.str []), (.int .i64 0), (.str [])]), (i49, .cells [(.int .i64 3), (.str []), (.str []), .nils, (.lst (List.map e_Api_Filter [(Api_Filter.mk 4 [99, 110] a4 none none)]) .full)])] [] [] false) ?_ ?_
 replace h := hy74
 revert H
 cases hc76 : y67
 intro H
 replace h := iteF h hc76
 refine us 3 rfl <| WO.nil ?_
 have h := oi h; subst h
 exact kh H
 intro H
 replace h := iteT h hc76
 refine WO.go0 rfl rfl <| wg H 1 rfl rfl rfl rfl <| WO.go0 rfl rfl ?_
 obtain ⟨y75, hy75, h⟩ := bindS h
 refine cl (.bool y75) [(.agg [(.int .i64 7), (.int .i64 3), (.int .i64 0), (.str a0), (.int .i64 0), (.str []), (.int .i64 (cv .i64 z50)), (.int .i64 (cv .i64 a2)), (.int .i64 3), (.str []), (.str []), .nils, (.lst (List.map e_Api_Filter [(Api_Filter.mk 4 [99, 110] a4 none none)]) .full), (encSl eS a3), .nils, (.str []), (.bool false), (.bool false), (.str []), (.str []), (.str []), (.int .i64 0), (.str [])])] rfl rfl rfl rfl (s9 _ hy75 (by simp only [st_agg, List.map_cons, List.map_nil, st1_int, st1_str, st1_nils, encSl_none, hv48.strip1, st1_lst, encSl_some, eI, eB, eS, strip1_enc, st1_bool, tupled, e_Api_Msg] <;> rfl)) <| us 1 rfl <| WO.nil ?_
 have h := oi h; subst h
 exact kh H
 rintro σ S e ⟨hk, H, rfl⟩
 replace h := hOy74
 refine WO.of_known hk <| us 1 rfl <| WO.nil <| WC.ret ?_
 have h := oi h; subst h
 exact kr (.bool y74) rfl rfl rfl
end Go.Proofs.YtbinlabnilidiaaDoor.M
