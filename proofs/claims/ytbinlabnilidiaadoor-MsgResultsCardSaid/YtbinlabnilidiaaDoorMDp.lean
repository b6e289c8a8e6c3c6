/- Part of the proof: the runs of functions on the abstract machine. -/
import Derived.Test.YtbinlabnilidiaaDoorPamM4
import Derived.Test.YtbinlabnilidiaaDoorFns
import Derived.Test.YtbinlabnilidiaaDoorMDe
import Derived.Test.YtbinlabnilidiaaDoorMDc
import Derived.Test.YtbinlabnilidiaaDoorMDc1
import Derived.Test.YtbinlabnilidiaaDoorMDw
import Derived.Test.YtbinlabnilidiaaDoorMDr
import Derived.Test.YtbinlabnilidiaaDoorMDd
import Derived.Test.YtbinlabnilidiaaDoorMDd1
import Derived.Test.YtbinlabnilidiaaDoorMDk
namespace Go.Proofs.YtbinlabnilidiaaDoor.M
open Go Go.Pam Go.RowKit Go.WideShapes
set_option maxRecDepth 8000
set_option maxHeartbeats 1000000
set_option linter.unusedVariables false
set_option linter.unusedSimpArgs false

def F3 (k : Nat) (a0 : Int) (a1 : Int) (a2 : Int) (a3 : Str) (a4 : Int) : Option Bool :=
 Option.bind (F5 k ) fun y1 =>
 if !y1 then
 some false
 else
 if decide ((Str.len a3) > 400) then
 some true
 else
 Option.bind (rem? a0 7) fun z5 =>
 Option.bind (Sl.at? (some [1, 3, 4, 5, 6, 7, 8]) z5) fun y6 =>
 Option.bind (rem? a1 128) fun z7 =>
 Option.bind (rem? a2 7) fun z10 =>
 Option.bind (Sl.at? (some [1, 3, 4, 5, 6, 7, 8]) z10) fun y11 =>
 Option.bind (F6 k (Api_Msg.mk (cv .i64 a4) 9 y6 [] 0 [] 0 0 (Api_Filter.mk 0 [] [] none none) none none [] false false [] [] [] (cv .i64 z7) a3)) fun y12 =>
 Option.bind (F6 k (Api_Msg.mk (cv .i64 a4) 9 y11 [] 0 [] 0 0 (Api_Filter.mk 0 [] [] none none) none none [] false false [] [] [] (cv .i64 z7) a3)) fun y13 =>
 Option.bind (F7 k y12.1) fun y14 =>
 Option.bind (if ((y12.2 == 0) && (y13.2 == 0)) && (y14.2 == 0) then
 Option.bind (F8 k y14.1 (Api_Msg.mk (cv .i64 a4) 9 y6 [] 0 [] 0 0 (Api_Filter.mk 0 [] [] none none) none none [] false false [] [] [] (cv .i64 z7) a3)) fun y23 =>
 some y23
 else
 some false) fun y22 =>
 Option.bind (if y22 then
 Option.bind (rem? a0 7) fun z33 =>
 Option.bind (rem? a2 7) fun z34 =>
 some ((y12.1 == y13.1) == (z33 == z34))
 else
 some false) fun y32 =>
 some y32
theorem s3 : ∀ k : Nat, ∀ {a0 : Int} {a1 : Int} {a2 : Int} {a3 : Str} {a4 : Int} {r : Bool}, F3 k a0 a1 a2 a3 a4 = some r → Q 3 [(.int .u8 a0), (.int .u8 a1), (.int .u8 a2), (.str a3), (.int .u16 a4)] (.bool r) := by
 intro k a0 a1 a2 a3 a4 r h
 unfold F3 at h
 refine Qe.go (pf := fn3) rfl rfl (Nat.le_of_ble_eq_true rfl) rfl rfl rfl fun H => ?_
 refine WC.seqR <| us 1 rfl <| WO.nil <| WC.seq <| WC.seqR ?_
 obtain ⟨y1, hy1, h⟩ := bindS h
 refine cl (.bool y1) [] rfl rfl rfl rfl (s5 _ hy1 rfl) <| us 1 rfl <| WO.nil ?_
 rcases iteS h with ⟨hc37, h⟩ | ⟨hc37, h⟩
 refine WC.condT rfl hc37 <| WC.seqR <| us 1 rfl <| WO.nil <| WC.ret <| KX.seq_r ?_
 have h := oi h; subst h
 exact kr (.bool false) rfl rfl rfl
 refine WC.condF rfl hc37 <| WC.skip <| KX.seq_n <| WC.seq <| WC.seqR <| us 3 rfl <| WO.nil ?_
 rcases iteS h with ⟨hc36, h⟩ | ⟨hc36, h⟩
 refine WC.condT rfl hc36 <| WC.seqR <| us 1 rfl <| WO.nil <| WC.ret <| KX.seq_r ?_
 have h := oi h; subst h
 exact kr (.bool true) rfl rfl rfl
 refine WC.condF rfl hc36 <| WC.skip <| KX.seq_n <| WC.seqR <| w (.agg z32_) rfl (nz rfl (stp_buildArr (ti := ty24) (ei := ty3) rfl rfl rfl rfl rfl (fill_cons (cells' := [(.int .i64 1), (.int .i64 0), (.int .i64 0), (.int .i64 0), (.int .i64 0), (.int .i64 0), (.int .i64 0)]) rfl rfl rfl rfl (Nat.le_of_ble_eq_true rfl) rfl (fill_cons (cells' := [(.int .i64 1), (.int .i64 3), (.int .i64 0), (.int .i64 0), (.int .i64 0), (.int .i64 0), (.int .i64 0)]) rfl rfl rfl rfl (Nat.le_of_ble_eq_true rfl) rfl (fill_cons (cells' := [(.int .i64 1), (.int .i64 3), (.int .i64 4), (.int .i64 0), (.int .i64 0), (.int .i64 0), (.int .i64 0)]) rfl rfl rfl rfl (Nat.le_of_ble_eq_true rfl) rfl (fill_cons (cells' := [(.int .i64 1), (.int .i64 3), (.int .i64 4), (.int .i64 5), (.int .i64 0), (.int .i64 0), (.int .i64 0)]) rfl rfl rfl rfl (Nat.le_of_ble_eq_true rfl) rfl (fill_cons (cells' := [(.int .i64 1), (.int .i64 3), (.int .i64 4), (.int .i64 5), (.int .i64 6), (.int .i64 0), (.int .i64 0)]) rfl rfl rfl rfl (Nat.le_of_ble_eq_true rfl) rfl (fill_cons (cells' := [(.int .i64 1), (.int .i64 3), (.int .i64 4), (.int .i64 5), (.int .i64 6), (.int .i64 7), (.int .i64 0)]) rfl rfl rfl rfl (Nat.le_of_ble_eq_true rfl) rfl (fill_cons (cells' := z32_) rfl rfl rfl rfl (Nat.le_of_ble_eq_true rfl) rfl rfl))))))))) <| WO.alloc' (ti := ty24) rfl rfl rfl rfl H ?_
 intro i4 S hi4 H
 refine wos 0 H hi4 rfl rfl rfl rfl rfl rfl rfl rfl rfl rfl ?_
 intro S H
 refine WO.nil <| WC.seqR <| us 3 rfl ?_
 obtain ⟨z5, hz5, h⟩ := bindS h
 refine w (.int .u8 z5) rfl (nz rfl (stp_rem rfl rfl hz5)) ?_
 obtain ⟨y6, hy6, h⟩ := bindS h
 refine w (.ptr i4 (0 + Int.toNat z5 * 1)) rfl (nz rfl (stp_idxPtr (xs := [1, 3, 4, 5, 6, 7, 8]) rfl rfl rfl rfl rfl hy6)) <| w (.int .i64 y6) rfl (nz rfl (stp_loadA (f := (eI .i64)) (xs := [1, 3, 4, 5, 6, 7, 8]) rfl (H.get 0 rfl) rfl rfl hy6)) <| us 1 rfl ?_
 obtain ⟨z7, hz7, h⟩ := bindS h
 refine w (.int .u8 z7) rfl (nz rfl (stp_rem rfl rfl hz7)) <| us 2 rfl <| w (.agg [(.int .i64 (cv .i64 a4)), (.int .i64 9), (.int .i64 y6), (.str []), (.int .i64 0), (.str []), (.int .i64 0), (.int .i64 0), (.int .i64 0), (.str []), (.str []), .nils, .nils, .nils, .nils, (.str []), (.bool false), (.bool false), (.str []), (.str []), (.str []), (.int .i64 (cv .i64 z7)), (.str a3)]) rfl (nz rfl (stp_build (ti := ty31) rfl rfl rfl rfl rfl (fill_cons rfl rfl rfl rfl (Nat.le_of_ble_eq_true rfl) rfl (fill_cons rfl rfl rfl rfl (Nat.le_of_ble_eq_true rfl) rfl (fill_cons rfl rfl rfl rfl (Nat.le_of_ble_eq_true rfl) rfl (fill_cons rfl rfl rfl rfl (Nat.le_of_ble_eq_true rfl) rfl (fill_cons rfl rfl rfl rfl (Nat.le_of_ble_eq_true rfl) rfl rfl))))))) <| WO.alloc' (ti := ty31) rfl rfl rfl rfl H ?_
 intro i8 S hi8 H
 refine wos 0 H hi8 rfl rfl rfl rfl rfl rfl rfl rfl rfl rfl ?_
 intro S H
 refine WO.nil <| WC.seqR <| wg H 0 rfl rfl rfl rfl <| WO.alloc' (ti := ty31) rfl rfl rfl rfl H ?_
 intro i9 S hi9 H
 refine wos 0 H hi9 rfl rfl rfl rfl rfl rfl rfl rfl rfl rfl ?_
 intro S H
 refine WO.nil <| WC.seqR <| us 1 rfl ?_
 obtain ⟨z10, hz10, h⟩ := bindS h
 refine w (.int .u8 z10) rfl (nz rfl (stp_rem rfl rfl hz10)) ?_
 obtain ⟨y11, hy11, h⟩ := bindS h
 refine w (.ptr i4 (0 + Int.toNat z10 * 1)) rfl (nz rfl (stp_idxPtr (xs := [1, 3, 4, 5, 6, 7, 8]) rfl rfl rfl rfl rfl hy11)) <| w (.int .i64 y11) rfl (nz rfl (stp_loadA (f := (eI .i64)) (xs := [1, 3, 4, 5, 6, 7, 8]) rfl (H.get 2 rfl) rfl rfl hy11)) <| us 1 rfl <| wos 0 H hi9 rfl rfl rfl rfl rfl rfl rfl rfl rfl rfl ?_
 intro S H
 refine WO.nil <| WC.seqR <| wg H 1 rfl rfl rfl rfl ?_
 obtain ⟨y12, hy12, h⟩ := bindS h
 refine cl (.tup [(.str y12.1), (.int .i64 y12.2)]) [(.agg [(.int .i64 (cv .i64 a4)), (.int .i64 9), (.int .i64 y6), (.str []), (.int .i64 0), (.str []), (.int .i64 0), (.int .i64 0), (.int .i64 0), (.str []), (.str []), .nils, .nils, .nils, .nils, (.str []), (.bool false), (.bool false), (.str []), (.str []), (.str []), (.int .i64 (cv .i64 z7)), (.str a3)])] rfl rfl rfl rfl (sv (s6 _ hy12)) <| us 5 rfl <| WO.nil <| WC.seqR <| wg H 0 rfl rfl rfl rfl ?_
 obtain ⟨y13, hy13, h⟩ := bindS h
 refine cl (.tup [(.str y13.1), (.int .i64 y13.2)]) [(.agg [(.int .i64 (cv .i64 a4)), (.int .i64 9), (.int .i64 y11), (.str []), (.int .i64 0), (.str []), (.int .i64 0), (.int .i64 0), (.int .i64 0), (.str []), (.str []), .nils, .nils, .nils, .nils, (.str []), (.bool false), (.bool false), (.str []), (.str []), (.str []), (.int .i64 (cv .i64 z7)), (.str a3)])] rfl rfl rfl rfl (sv (s6 _ hy13)) <| us 5 rfl <| WO.nil <| WC.seqR <| us 1 rfl ?_
 obtain ⟨y14, hy14, h⟩ := bindS h
 refine cl (.tup [(.agg (c_Api_Msg y14.1)), (.int .i64 y14.2)]) [(.str y12.1)] rfl rfl rfl rfl (s7 _ hy14 rfl) <| us 3 rfl <| WO.alloc' (ti := ty31) rfl rfl rfl rfl H ?_
 intro i15 S hi15 H
 refine wos 0 H hi15 rfl rfl rfl rfl rfl rfl rfl rfl rfl rfl ?_
 intro S H
 replace H : Hp [] [] _ [(i15, .cells (c_Api_Msg y14.1)), (i9, .cells [(.int .i64 (cv .i64 a4)), (.int .i64 9), (.int .i64 y11), (.str []), (.int .i64 0), (.str []), (.int .i64 0), (.int .i64 0), (.int .i64 0), (.str []), (.str []), .nils, .nils, .nils, .nils, (.str []), (.bool false), (.bool false), (.str []), (.str []), (.str []), (.int .i64 (cv .i64 z7)), (.str a3)]), (i8, .cells [(.int .i64 (cv .i64 a4)), (.int .i64 9), (.int .i64 y6), (.str []), (.int .i64 0), (.str []), (.int .i64 0), (.int .i64 0), (.int .i64 0), (.str []), (.str []), .nils, .nils, .nils, .nils, (.str []), (.bool false), (.bool false), (.str []), (.str []), (.str []), (.int .i64 (cv .i64 z7)), (.str a3)]), (i4, .cells z32_)] [] [] := H
 refine us 1 rfl <| WO.nil <| WC.seqR <| us 1 rfl <| w (.bool (y12.2 == 0)) rfl rfl <| w (.bool (y12.2 == 0)) rfl rfl ?_
 refine WO.split 3 (SH H [(0, (.int .u8 a0)), (2, (.int .u8 a2)), (12, (.ptr i8 0)), (14, (.str y12.1)), (16, (.str y13.1)), (18, (.ptr i15 0)), (19, (.int .i64 y14.2)), (63, (.bool ((y12.2 == 0) && (y13.2 == 0))))]) ?_ ?_
 revert H
 cases hc16 : (y12.2 == 0)
 intro H
 refine us 3 rfl <| WO.nil ?_
 exact kf H
 intro H
 refine us 3 rfl <| WO.nil ?_
 exact kf H
 rintro σ S e ⟨hk, H, rfl⟩
 refine WO.of_known hk <| w (.bool ((y12.2 == 0) && (y13.2 == 0))) rfl rfl ?_
 refine WO.split 3 (SH H [(0, (.int .u8 a0)), (2, (.int .u8 a2)), (12, (.ptr i8 0)), (14, (.str y12.1)), (16, (.str y13.1)), (18, (.ptr i15 0)), (67, (.bool (((y12.2 == 0) && (y13.2 == 0)) && (y14.2 == 0))))]) ?_ ?_
 revert H
 cases hc17 : ((y12.2 == 0) && (y13.2 == 0))
 intro H
 refine us 3 rfl <| WO.nil ?_
 exact kf H
 intro H
 refine us 3 rfl <| WO.nil ?_
 exact kf H
 rintro σ S e ⟨hk, H, rfl⟩
 refine WO.of_known hk <| w (.bool (((y12.2 == 0) && (y13.2 == 0)) && (y14.2 == 0))) rfl rfl ?_
 obtain ⟨y22, hy22, hOy22⟩ := bindS h
 refine WO.split 4 (SJ [(0, (.int .u8 a0)), (2, (.int .u8 a2)), (14, (.str y12.1)), (16, (.str y13.1)), (72, (.bool y22))] [] [] [(i15, .cells (c_Api_Msg y14.1)), (i9, .cells [(.int .i64 (cv .i64 a4)), (.int .i64 9), (.int .i64 y11), (.str []), (.int .i64 0), (.str []), (.int .i64 0), (.int .i64 0), (.int .i64 0), (.str []), (.str []), .nils, .nils, .nils, .nils, (.str []), (.bool false), (.bool false), (.str []), (.str []), (.str []), (.int .i64 (cv .i64 z7)), (.str a3)]), (i8, .cells [(.int .i64 (cv .i64 a4)), (.int .i64 9), (.int .i64 y6), (.str []), (.int .i64 0), (.str []), (.int .i64 0), (.int .i64 0), (.int .i64 0), (.str []), (.str []), .nils, .nils, .nils, .nils, (.str []), (.bool false), (.bool false), (.str []), (.str []), (.str []), (.int .i64 (cv .i64 z7)), (.str a3)]), (i4, .cells z32_)] [] [] false) ?_ ?_
 replace h := hy22
 revert H
 cases hc24 : (((y12.2 == 0) && (y13.2 == 0)) && (y14.2 == 0))
 intro H
 replace h := iteF h hc24
 refine us 4 rfl <| WO.nil ?_
 have h := oi h; subst h
 exact kh H
 intro H
 replace h := iteT h hc24
 refine WO.go0 rfl rfl <| wg H 0 rfl rfl rfl rfl <| WO.go0 rfl rfl <| wg H 2 rfl rfl rfl rfl <| WO.go0 rfl rfl ?_
 obtain ⟨y23, hy23, h⟩ := bindS h
 refine cl (.bool y23) [(.agg (c_Api_Msg y14.1)), (.agg [(.int .i64 (cv .i64 a4)), (.int .i64 9), (.int .i64 y6), (.str []), (.int .i64 0), (.str []), (.int .i64 0), (.int .i64 0), (.int .i64 0), (.str []), (.str []), .nils, .nils, .nils, .nils, (.str []), (.bool false), (.bool false), (.str []), (.str []), (.str []), (.int .i64 (cv .i64 z7)), (.str a3)])] rfl rfl rfl rfl (sv (s8 _ hy23)) <| us 1 rfl <| WO.nil ?_
 have h := oi h; subst h
 exact kh H
 rintro σ S e ⟨hk, H, rfl⟩
 replace h := hOy22
 refine WO.of_known hk <| us 1 rfl ?_
 obtain ⟨y32, hy32, hOy32⟩ := bindS h
 refine WO.split 10 (SJ [(83, (.bool y32))] [] [] [(i15, .cells (c_Api_Msg y14.1)), (i9, .cells [(.int .i64 (cv .i64 a4)), (.int .i64 9), (.int .i64 y11), (.str []), (.int .i64 0), (.str []), (.int .i64 0), (.int .i64 0), (.int .i64 0), (.str []), (.str []), .nils, .nils, .nils, .nils, (.str []), (.bool false), (.bool false), (.str []), (.str []), (.str []), (.int .i64 (cv .i64 z7)), (.str a3)]), (i8, .cells [(.int .i64 (cv .i64 a4)), (.int .i64 9), (.int .i64 y6), (.str []), (.int .i64 0), (.str []), (.int .i64 0), (.int .i64 0), (.int .i64 0), (.str []), (.str []), .nils, .nils, .nils, .nils, (.str []), (.bool false), (.bool false), (.str []), (.str []), (.str []), (.int .i64 (cv .i64 z7)), (.str a3)]), (i4, .cells z32_)] [] [] false) ?_ ?_
 replace h := hy32
 revert H
 cases hc35 : y22
 intro H
 replace h := iteF h hc35
 refine us 10 rfl <| WO.nil ?_
 have h := oi h; subst h
 exact kh H
 intro H
 replace h := iteT h hc35
 refine us 4 rfl <| WO.go0 rfl rfl ?_
 obtain ⟨z33, hz33, h⟩ := bindS h
 refine w (.int .u8 z33) rfl (nz rfl (stp_rem rfl rfl hz33)) <| us 1 rfl <| WO.go0 rfl rfl ?_
 obtain ⟨z34, hz34, h⟩ := bindS h
 refine w (.int .u8 z34) rfl (nz rfl (stp_rem rfl rfl hz34)) <| us 3 rfl <| WO.nil ?_
 have h := oi h; subst h
 exact kh H
 rintro σ S e ⟨hk, H, rfl⟩
 replace h := hOy32
 refine WO.of_known hk <| us 1 rfl <| WO.nil <| WC.ret ?_
 have h := oi h; subst h
 exact kr (.bool y32) rfl rfl rfl
end Go.Proofs.YtbinlabnilidiaaDoor.M
