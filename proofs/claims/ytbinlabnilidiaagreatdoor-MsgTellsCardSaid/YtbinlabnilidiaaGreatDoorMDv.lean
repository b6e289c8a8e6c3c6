/- Part of the proof: the runs of functions on the abstract machine. -/
import Derived.Test.YtbinlabnilidiaaGreatDoorPamM3
import Derived.Test.YtbinlabnilidiaaGreatDoorFns
import Derived.Test.YtbinlabnilidiaaGreatDoorMDe
import Derived.Test.YtbinlabnilidiaaGreatDoorMDc
import Derived.Test.YtbinlabnilidiaaGreatDoorMDc1
import Derived.Test.YtbinlabnilidiaaGreatDoorMDr
import Derived.Test.YtbinlabnilidiaaGreatDoorMDr1
namespace Go.Proofs.YtbinlabnilidiaaGreatDoor.M
open Go Go.Pam Go.RowKit Go.WideShapes
set_option maxRecDepth 8000
set_option linter.unusedVariables false
set_option linter.unusedSimpArgs false

def F83_L0 (k : Nat) : Nat → (Sl Int) → Int → Option ((Sl Int) × Int)
 | 0, _, _ => none
 | n + 1, x105, x107 =>
  Option.bind (if x107 == 0 then
  Option.bind (Sl.at? x105 0) fun y113 =>
  some (decide (y113 < 128))
  else
  some false) fun y112 =>
  Option.bind (if y112 then
  some true
  else
  Option.bind (if x107 == (-1) then
  Option.bind (Sl.at? x105 0) fun y143 =>
  some (decide (y143 ≥ 128))
  else
  some false) fun y142 =>
  some y142) fun y137 =>
  if !y137 then
  Option.bind (Sl.app? 1 (some [cv .u8 x107]) (Sl.l x105)) fun z152 =>
  Option.bind (shr? .i64 x107 8) fun z154 =>
  F83_L0 k n z152 z154
  else
  some (x105, x107)
def F83 (k : Nat) (a0 : Int) : Option Str :=
 Option.bind (shr? .i64 a0 8) fun z2 =>
 Option.bind (F83_L0 k k (some [cv .u8 a0]) z2) fun y157 =>
 some (Str.of y157.1)
theorem l83_L0 {k : Nat} {S0 : List SObj} {R : List Nat} {K : KX}  {o : ((Sl Int) × Int)}
  (hbrk : ∀ {σ' : Nat → PV} {S' : List SObj}, ∀ (v156 : PV) (_ : IsSl (eI .u8) o.1 v156), Known [(3, v156)] σ' → Hp S0 R S' [] [] [] → K (.exit 0) σ' S' false) :
  ∀ {n : Nat} {x105 : Sl Int} {x107 : Int}, F83_L0 k n x105 x107 = some o → ∀ {σ : Nat → PV} {S : List SObj}, ∀ (v106 : PV) (_ : IsSl (eI .u8) x105 v106), Known [(3, v106), (4, (.int .i64 x107))] σ → Hp S0 R S [] [] [] → WC env ⟨38, S0.length⟩ (.loop pc83L0) σ S false K := by
 intro n
 induction n with
 | zero => intro _ _ h; cases h
 | succ n ih =>
  intro x105 x107 h σ S v106 hv106 hk H
  rw [F83_L0] at h
  refine WC.loop <| WC.of_known hk <| WC.seq <| WC.seqR <| us 1 rfl <| w (.bool (x107 == 0)) rfl rfl <| w (.bool (x107 == 0)) rfl rfl ?_
  obtain ⟨y112, hy112, hOy112⟩ := bindS h
  refine WO.split 5 (SJ [(3, v106), (4, (.int .i64 x107)), (17, (.bool y112))] S0 R [] [] [] false) ?_ ?_
  replace h := hy112
  revert H
  cases hc114 : (x107 == 0)
  intro H
  replace h := iteF h hc114
  refine us 5 rfl <| WO.nil ?_
  have h := oi h; subst h
  exact kh H
  intro H
  replace h := iteT h hc114
  refine WO.go0 rfl rfl <| w v106 rfl rfl <| WO.go0 rfl rfl ?_
  obtain ⟨y113, hy113, h⟩ := bindS h
  refine w (.iptr [(.int .u8 y113)] 0) rfl (nz rfl (stp_idxAddr rfl hv106 rfl rfl rfl hy113 rfl rfl)) <| us 3 rfl <| WO.nil ?_
  have h := oi h; subst h
  exact kh H
  rintro σ S e ⟨hk, H, rfl⟩
  replace h := hOy112
  refine WO.of_known hk <| us 1 rfl ?_
  obtain ⟨y137, hy137, hOy137⟩ := bindS h
  refine WO.split 9 (SJ [(3, v106), (4, (.int .i64 x107)), (27, (.bool y137))] S0 R [] [] [] false) ?_ ?_
  replace h := hy137
  revert H
  cases hc145 : y112
  intro H
  replace h := iteF h hc145
  refine us 1 rfl <| WO.go0 rfl rfl <| w (.bool (x107 == (-1))) rfl rfl <| WO.go0 rfl rfl <| w (.bool (x107 == (-1))) rfl rfl ?_
  obtain ⟨y142, hy142, hOy142⟩ := bindS h
  refine WO.split 5 (SJ [(3, v106), (4, (.int .i64 x107)), (18, (.bool false)), (26, (.bool y142))] S0 R [] [] [] false) ?_ ?_
  replace h := hy142
  revert H
  cases hc144 : (x107 == (-1))
  intro H
  replace h := iteF h hc144
  refine us 5 rfl <| WO.nil ?_
  have h := oi h; subst h
  exact kh H
  intro H
  replace h := iteT h hc144
  refine WO.go0 rfl rfl <| w v106 rfl rfl <| WO.go0 rfl rfl ?_
  obtain ⟨y143, hy143, h⟩ := bindS h
  refine w (.iptr [(.int .u8 y143)] 0) rfl (nz rfl (stp_idxAddr rfl hv106 rfl rfl rfl hy143 rfl rfl)) <| us 3 rfl <| WO.nil ?_
  have h := oi h; subst h
  exact kh H
  rintro σ S e ⟨hk, H, rfl⟩
  replace h := hOy142
  refine WO.of_known hk <| us 1 rfl <| WO.nil ?_
  have h := oi h; subst h
  exact kh H
  intro H
  replace h := iteT h hc145
  refine us 3 rfl <| WO.by0 rfl rfl <| WO.by0 rfl rfl <| WO.by0 rfl rfl <| WO.by0 rfl rfl <| us 2 rfl <| WO.nil ?_
  have h := oi h; subst h
  exact kh H
  rintro σ S e ⟨hk, H, rfl⟩
  replace h := hOy137
  refine WO.of_known hk <| us 1 rfl <| WO.nil ?_
  rcases iteS h with ⟨hc155, h⟩ | ⟨hc155, h⟩
  refine WC.condT rfl hc155 <| WC.skip <| KX.seq_n <| WC.block <| WC.seqR <| us 2 rfl <| WS rfl (nz rfl (stp_buildSlice (ys := [cv .u8 x107]) (f := (eI .u8)) (parts := [(0, (.int .u8 (cv .u8 x107)))]) rfl rfl rfl rfl rfl rfl (fc ⟨rfl, rfl⟩ (fun p hp => nomatch hp)) rfl)) ?_
  have hv151 : IsSl (eI .u8) (some [cv .u8 x107]) _ := ⟨.full, rfl⟩
  refine w v106 rfl rfl ?_
  obtain ⟨z152, hz152, h⟩ := bindS h
  have H := H.addFull (List.map (eI .u8) [cv .u8 x107]) 1 (sized_map (f := (eI .u8)) (fun _ => rfl) _)
  refine WO.ex rfl (nzx (fz_tmp' hv106.frz rfl) (stp_app (f := (eI .u8)) (ei := ty5) H 0 rfl rfl hv151 rfl hv106 rfl rfl rfl rfl (fun _ => rfl) hz152)) ?_
  rintro v153 S ⟨hv153, H⟩
  replace H : Hp S0 R _ [] [(v153, 1)] [] := H
  refine w v153 rfl rfl <| WO.nil <| WC.region <| us 1 rfl ?_
  obtain ⟨z154, hz154, h⟩ := bindS h
  refine w (.int .i64 z154) rfl (nz rfl (stp_shr rfl rfl hz154)) <| us 1 rfl <| WO.nil <| KX.block_n <| KX.seq_n ?_
  exact ih h v153 (hv153) kn (H.sub .slnil (.cons _ .slnil) .slnil)
  refine WC.condF rfl hc155 <| WC.exit <| KX.seq_x <| KX.seq_x ?_
  have h := oi h; subst h
  exact hbrk v106 (hv106) kn (hs H)
theorem s83 : ∀ k : Nat, ∀ {a0 : Int} {r : Str}, F83 k a0 = some r → Q 83 [(.int .i64 a0)] (.str r) := by
 intro k a0 r h
 unfold F83 at h
 refine Qe.go (pf := fn83) rfl rfl (Nat.le_of_ble_eq_true rfl) rfl rfl rfl fun H => ?_
 refine WC.seqR <| us 1 rfl <| WO.nil <| WC.seqR <| us 2 rfl <| WS rfl (nz rfl (stp_buildSlice (ys := [cv .u8 a0]) (f := (eI .u8)) (parts := [(0, (.int .u8 (cv .u8 a0)))]) rfl rfl rfl rfl rfl rfl (fc ⟨rfl, rfl⟩ (fun p hp => nomatch hp)) rfl)) ?_
 have hv1 : IsSl (eI .u8) (some [cv .u8 a0]) _ := ⟨.full, rfl⟩
 refine us 1 rfl <| WO.nil <| WC.seqR <| us 1 rfl ?_
 obtain ⟨z2, hz2, h⟩ := bindS h
 refine w (.int .i64 z2) rfl (nz rfl (stp_shr rfl rfl hz2)) <| us 1 rfl <| WO.nil <| WC.seq ?_
 obtain ⟨y157, hy157, hOy157⟩ := bindS h
 refine WC.block ?_
 refine l83_L0 ?_ hy157 (.lst (List.map (eI .u8) [cv .u8 a0]) .full) (hv1) kn (hs H)
 intro σ S v158 hv158 hk H; replace h := hOy157
 refine KX.of_known hk <| KX.block_x <| KX.seq_n <| WC.seqR <| w v158 rfl rfl <| w (.str (Str.of y157.1)) rfl (nz (fz_tmp' hv158.frz rfl) (stp_text rfl hv158 rfl rfl rfl)) <| us 1 rfl <| WO.nil <| WC.ret ?_
 have h := oi h; subst h
 exact kr (.str (Str.of y157.1)) rfl rfl rfl
def F56 (k : Nat) (a0 : Int) (a1 : Int) : Option Api_Element :=
 Option.bind (F83 k a1) fun y2 =>
 some (Api_Element.mk a0 y2 none)
theorem s56 : ∀ k : Nat, ∀ {a0 : Int} {a1 : Int} {r : Api_Element}, F56 k a0 a1 = some r → Q 56 [(.int .u8 a0), (.int .i64 a1)] (.agg (c_Api_Element r)) := by
 intro k a0 a1 r h vs ha S
 unfold F56 at h
 refine evw_pureW (pf := fn56) rfl rfl ha (Nat.le_of_ble_eq_true rfl) rfl (by simp [PV.clean, cleanL, clean_encSl clean_Api_Element]) ?_
 refine WB.of (pf := fn56) rfl ?_
 have H := Hp.start []
 refine WC.seqR <| WO.alloc' (ti := ty50) rfl rfl rfl rfl H ?_
 intro i1 S hi1 H
 refine WO.nil <| WC.seqR <| us 2 rfl ?_
 obtain ⟨y2, hy2, h⟩ := bindS h
 refine cl (.str y2) [(.int .i64 a1)] rfl rfl rfl rfl (s83 _ hy2 rfl) <| w (.agg [(.int .u8 a0), (.str y2), .nils]) rfl (nz rfl (stp_build (ti := ty50) rfl rfl rfl rfl rfl (fill_cons rfl rfl rfl rfl (Nat.le_of_ble_eq_true rfl) rfl (fill_cons rfl rfl rfl rfl (Nat.le_of_ble_eq_true rfl) rfl rfl)))) <| wos 0 H hi1 rfl rfl rfl rfl rfl rfl rfl rfl rfl rfl ?_
 intro S H
 replace H : Hp [] [] _ [(i1, .cells [(.int .u8 a0), (.str y2), .nils])] [] [] := H
 refine WO.nil <| WC.ret ?_
 have h := oi h; subst h
 refine KB.ret (vs := [(.agg [(.int .u8 a0), (.str y2), .nils])]) (res_cell rfl (H.get 0 rfl) rfl res_nil) (fl_cons' rfl rfl) ?_
 exact (by simp only [st_tup, List.map_cons, List.map_nil, tupled, st_agg, st1_int, st1_str, st1_nils, encSl_none, e_Api_Element_eq, c_Api_Element])
def F26 (k : Nat) (a0 : Int) (a1 : Int) : Option Api_Element :=
 Option.bind (F56 k a0 a1) fun y2 =>
 some y2
theorem s26 : ∀ k : Nat, ∀ {a0 : Int} {a1 : Int} {r : Api_Element}, F26 k a0 a1 = some r → Q 26 [(.int .u8 a0), (.int .i64 a1)] (.agg (c_Api_Element r)) := by
 intro k a0 a1 r h vs ha S
 unfold F26 at h
 refine evw_pureW (pf := fn26) rfl rfl ha (Nat.le_of_ble_eq_true rfl) rfl (by simp [PV.clean, cleanL, clean_encSl clean_Api_Element]) ?_
 refine WB.of (pf := fn26) rfl ?_
 have H := Hp.start []
 refine WC.seqR <| WO.alloc' (ti := ty50) rfl rfl rfl rfl H ?_
 intro i1 S hi1 H
 refine WO.nil <| WC.seqR <| us 2 rfl ?_
 obtain ⟨y2, hy2, h⟩ := bindS h
 refine cl (.agg (c_Api_Element y2)) [(.int .u8 a0), (.int .i64 a1)] rfl rfl rfl rfl (s56 _ hy2 rfl) <| wos 0 H hi1 rfl rfl rfl rfl rfl rfl rfl rfl rfl rfl ?_
 intro S H
 replace H : Hp [] [] _ [(i1, .cells (c_Api_Element y2))] [] [] := H
 refine WO.nil <| WC.ret ?_
 have h := oi h; subst h
 refine KB.ret (vs := [(.agg (c_Api_Element y2))]) (res_cell rfl (H.get 0 rfl) rfl res_nil) (fl_cons' rfl rfl) ?_
 exact (by simp only [st_tup, List.map_cons, List.map_nil, tupled, st_agg, st1_int, st1_str, strip1_enc, e_Api_Element_eq, c_Api_Element])
def F58 (k : Nat) (a0 : Int) (a1 : Str) : Option Api_Element :=
 some (Api_Element.mk a0 a1 none)
theorem s58 : ∀ k : Nat, ∀ {a0 : Int} {a1 : Str} {r : Api_Element}, F58 k a0 a1 = some r → Q 58 [(.int .u8 a0), (.str a1)] (.agg (c_Api_Element r)) := by
 intro k a0 a1 r h vs ha S
 unfold F58 at h
 refine evw_pureW (pf := fn58) rfl rfl ha (Nat.le_of_ble_eq_true rfl) rfl (by simp [PV.clean, cleanL, clean_encSl clean_Api_Element]) ?_
 refine WB.of (pf := fn58) rfl ?_
 have H := Hp.start []
 refine WC.seqR <| WO.alloc' (ti := ty50) rfl rfl rfl rfl H ?_
 intro i1 S hi1 H
 refine WO.nil <| WC.seqR <| us 2 rfl <| w (.agg [(.int .u8 a0), (.str a1), .nils]) rfl (nz rfl (stp_build (ti := ty50) rfl rfl rfl rfl rfl (fill_cons rfl rfl rfl rfl (Nat.le_of_ble_eq_true rfl) rfl (fill_cons rfl rfl rfl rfl (Nat.le_of_ble_eq_true rfl) rfl rfl)))) <| wos 0 H hi1 rfl rfl rfl rfl rfl rfl rfl rfl rfl rfl ?_
 intro S H
 replace H : Hp [] [] _ [(i1, .cells [(.int .u8 a0), (.str a1), .nils])] [] [] := H
 refine WO.nil <| WC.ret ?_
 have h := oi h; subst h
 refine KB.ret (vs := [(.agg [(.int .u8 a0), (.str a1), .nils])]) (res_cell rfl (H.get 0 rfl) rfl res_nil) (fl_cons' rfl rfl) ?_
 exact (by simp only [st_tup, List.map_cons, List.map_nil, tupled, st_agg, st1_int, st1_str, st1_nils, encSl_none, e_Api_Element_eq, c_Api_Element])
def F57 (k : Nat) (a0 : Str) : Option Api_Element :=
 Option.bind (F58 k 4 a0) fun y2 =>
 some y2
theorem s57 : ∀ k : Nat, ∀ {a0 : Str} {r : Api_Element}, F57 k a0 = some r → Q 57 [(.str a0)] (.agg (c_Api_Element r)) := by
 intro k a0 r h vs ha S
 unfold F57 at h
 refine evw_pureW (pf := fn57) rfl rfl ha (Nat.le_of_ble_eq_true rfl) rfl (by simp [PV.clean, cleanL, clean_encSl clean_Api_Element]) ?_
 refine WB.of (pf := fn57) rfl ?_
 have H := Hp.start []
 refine WC.seqR <| WO.alloc' (ti := ty50) rfl rfl rfl rfl H ?_
 intro i1 S hi1 H
 refine WO.nil <| WC.seqR <| us 1 rfl ?_
 obtain ⟨y2, hy2, h⟩ := bindS h
 refine cl (.agg (c_Api_Element y2)) [(.int .u8 4), (.str a0)] rfl rfl rfl rfl (s58 _ hy2 rfl) <| wos 0 H hi1 rfl rfl rfl rfl rfl rfl rfl rfl rfl rfl ?_
 intro S H
 replace H : Hp [] [] _ [(i1, .cells (c_Api_Element y2))] [] [] := H
 refine WO.nil <| WC.ret ?_
 have h := oi h; subst h
 refine KB.ret (vs := [(.agg (c_Api_Element y2))]) (res_cell rfl (H.get 0 rfl) rfl res_nil) (fl_cons' rfl rfl) ?_
 exact (by simp only [st_tup, List.map_cons, List.map_nil, tupled, st_agg, st1_int, st1_str, strip1_enc, e_Api_Element_eq, c_Api_Element])
def F25 (k : Nat) (a0 : Int) (a1 : Sl Api_Element) : Option Api_Element :=
 some (Api_Element.mk a0 [] a1)
theorem s25 : ∀ k : Nat, ∀ {a0 : Int} {a1 : Sl Api_Element} {r : Api_Element}, F25 k a0 a1 = some r → Q 25 [(.int .u8 a0), (encSl e_Api_Element a1)] (.agg (c_Api_Element r)) := by
 intro k a0 a1 r h vs ha S
 unfold F25 at h
 refine evw_pureW (pf := fn25) rfl rfl ha (Nat.le_of_ble_eq_true rfl) (by simp [PV.clean, cleanL, clean_encSl clean_Api_Element]) (by simp [PV.clean, cleanL, clean_encSl clean_Api_Element]) ?_
 refine WB.of (pf := fn25) rfl ?_
 have H := Hp.start []
 refine WC.seqR <| WO.alloc' (ti := ty50) rfl rfl rfl rfl H ?_
 intro i1 S hi1 H
 refine WO.nil <| WC.seqR <| us 2 rfl <| w (.agg [(.int .u8 a0), (.str []), (encSl e_Api_Element a1)]) rfl (nz (fz_tmp' rfl (fe rfl rfl)) (stp_build (ti := ty50) rfl rfl rfl rfl rfl (fill_cons rfl rfl rfl rfl (Nat.le_of_ble_eq_true rfl) rfl (fill_cons rfl (isSl_enc _ _).one.1 (isSl_enc _ _).one.2 rfl (Nat.le_of_ble_eq_true rfl) rfl rfl)))) <| wos 0 H hi1 rfl rfl rfl rfl rfl rfl rfl rfl rfl rfl ?_
 intro S H
 replace H : Hp [] [] _ [(i1, .cells [(.int .u8 a0), (.str []), (encSl e_Api_Element a1)])] [] [] := H
 refine WO.nil <| WC.ret ?_
 have h := oi h; subst h
 refine KB.ret (vs := [(.agg [(.int .u8 a0), (.str []), (encSl e_Api_Element a1)])]) (res_cell rfl (H.get 0 rfl) rfl res_nil) (fl_cons' rfl rfl) ?_
 exact (by simp only [st_tup, List.map_cons, List.map_nil, tupled, st_agg, st1_int, st1_str, strip1_enc, e_Api_Element_eq, c_Api_Element])
def F84 (k : Nat) (a0 : Bool) : Option Str :=
 if a0 then
 some [255]
 else
 some [0]
theorem s84 : ∀ k : Nat, ∀ {a0 : Bool} {r : Str}, F84 k a0 = some r → Q 84 [(.bool a0)] (.str r) := by
 intro k a0 r h
 unfold F84 at h
 refine Qe.go (pf := fn84) rfl rfl (Nat.le_of_ble_eq_true rfl) rfl rfl rfl fun H => ?_
 refine WC.seqR <| us 1 rfl <| WO.nil <| WC.seq <| WC.seqR <| us 1 rfl <| WO.nil ?_
 rcases iteS h with ⟨hc2, h⟩ | ⟨hc2, h⟩
 refine WC.condT rfl hc2 <| WC.seqR <| us 1 rfl <| WO.nil <| WC.ret <| KX.seq_r ?_
 have h := oi h; subst h
 exact kr (.str [255]) rfl rfl rfl
 refine WC.condF rfl hc2 <| WC.skip <| KX.seq_n <| WC.seqR <| us 1 rfl <| WO.nil <| WC.ret ?_
 have h := oi h; subst h
 exact kr (.str [0]) rfl rfl rfl
def F59 (k : Nat) (a0 : Bool) : Option Api_Element :=
 Option.bind (F84 k a0) fun y2 =>
 Option.bind (F58 k 1 y2) fun y3 =>
 some y3
theorem s59 : ∀ k : Nat, ∀ {a0 : Bool} {r : Api_Element}, F59 k a0 = some r → Q 59 [(.bool a0)] (.agg (c_Api_Element r)) := by
 intro k a0 r h vs ha S
 unfold F59 at h
 refine evw_pureW (pf := fn59) rfl rfl ha (Nat.le_of_ble_eq_true rfl) rfl (by simp [PV.clean, cleanL, clean_encSl clean_Api_Element]) ?_
 refine WB.of (pf := fn59) rfl ?_
 have H := Hp.start []
 refine WC.seqR <| WO.alloc' (ti := ty50) rfl rfl rfl rfl H ?_
 intro i1 S hi1 H
 refine WO.nil <| WC.seqR <| us 1 rfl ?_
 obtain ⟨y2, hy2, h⟩ := bindS h
 refine cl (.str y2) [(.bool a0)] rfl rfl rfl rfl (s84 _ hy2 rfl) ?_
 obtain ⟨y3, hy3, h⟩ := bindS h
 refine cl (.agg (c_Api_Element y3)) [(.int .u8 1), (.str y2)] rfl rfl rfl rfl (s58 _ hy3 rfl) <| wos 0 H hi1 rfl rfl rfl rfl rfl rfl rfl rfl rfl rfl ?_
 intro S H
 replace H : Hp [] [] _ [(i1, .cells (c_Api_Element y3))] [] [] := H
 refine WO.nil <| WC.ret ?_
 have h := oi h; subst h
 refine KB.ret (vs := [(.agg (c_Api_Element y3))]) (res_cell rfl (H.get 0 rfl) rfl res_nil) (fl_cons' rfl rfl) ?_
 exact (by simp only [st_tup, List.map_cons, List.map_nil, tupled, st_agg, st1_int, st1_str, strip1_enc, e_Api_Element_eq, c_Api_Element])
def F61_L0 (k : Nat) (a45 : Int) (a46 : Sl Str) (a50 : Api_Element) : Nat → (Sl Api_Element) → Int → Option ((Sl Api_Element) × Int)
 | 0, _, _ => none
 | n + 1, x47, x49 =>
  if decide (x49 < (Sl.len a46)) then
  Option.bind (Sl.at? a46 x49) fun y57 =>
  Option.bind (F57 k y57) fun y58 =>
  Option.bind (Sl.app? 48 x47 (Sl.l (some [y58]))) fun z60 =>
  F61_L0 k a45 a46 a50 n z60 (ad .i64 x49 1)
  else
  some (x47, x49)
def F61 (k : Nat) (a0 : Int) (a1 : Sl Str) : Option Api_Element :=
 Option.bind (F61_L0 k a0 a1 (Api_Element.mk 0 [] none) k none 0) fun y64 =>
 Option.bind (F25 k a0 y64.1) fun y66 =>
 some y66
theorem l61_L0 {k : Nat} {a45 : Int} {a46 : Sl Str} {a50 : Api_Element} {S0 : List SObj} {R : List Nat} {K : KX} {i1 : Nat} (hi1 : S0.length ≤ i1)  {o : ((Sl Api_Element) × Int)}
  (hbrk : ∀ {σ' : Nat → PV} {S' : List SObj}, ∀ (v63 : PV) (_ : IsSl e_Api_Element o.1 v63), Known [(0, (.int .u8 a45)), (4, (.ptr i1 0)), (5, v63)] σ' → Hp S0 R S' [(i1, .cells [(.int .u8 a50.Tag), (.str a50.Body), .nils])] [(v63, 3)] [] → K (.exit 0) σ' S' false) :
  ∀ {n : Nat} {x47 : Sl Api_Element} {x49 : Int}, F61_L0 k a45 a46 a50 n x47 x49 = some o → ∀ {σ : Nat → PV} {S : List SObj}, ∀ (v48 : PV) (_ : IsSl e_Api_Element x47 v48), Known [(0, (.int .u8 a45)), (1, (encSl eS a46)), (4, (.ptr i1 0)), (5, v48), (6, (.int .i64 x49))] σ → Hp S0 R S [(i1, .cells [(.int .u8 a50.Tag), (.str a50.Body), .nils])] [(v48, 3)] [] → WC env ⟨24, S0.length⟩ (.loop pc61L0) σ S false K := by
 intro n
 induction n with
 | zero => intro _ _ h; cases h
 | succ n ih =>
  intro x47 x49 h σ S v48 hv48 hk H
  rw [F61_L0] at h
  refine WC.loop <| WC.of_known hk <| WC.seq <| WC.seqR <| us 2 rfl <| wl rfl rfl rfl <| us 1 rfl <| WO.nil ?_
  rcases iteS h with ⟨hc62, h⟩ | ⟨hc62, h⟩
  refine WC.condT rfl hc62 <| WC.skip <| KX.seq_n <| WC.seq <| WC.block <| WC.region <| w v48 rfl rfl <| us 2 rfl ?_
  obtain ⟨y57, hy57, h⟩ := bindS h
  refine w (.iptr [(.str y57)] 0) rfl (nz rfl (stp_idxAddr rfl (isSl_enc _ _) rfl rfl rfl hy57 rfl rfl)) <| us 1 rfl ?_
  obtain ⟨y58, hy58, h⟩ := bindS h
  refine cl (.agg (c_Api_Element y58)) [(.str y57)] rfl rfl rfl rfl (s57 _ hy58 rfl) <| WS rfl (nz rfl (stp_buildSlice (ys := [y58]) (f := e_Api_Element) (parts := [(0, (.agg (c_Api_Element y58)))]) rfl rfl rfl rfl rfl (by simp only [st_agg, List.map_cons, List.map_nil, st1_int, st1_str, strip1_enc, e_Api_Element_eq, tupled]) (fc ⟨rfl, rfl⟩ (fun p hp => nomatch hp)) rfl)) ?_
  have hv59 : IsSl e_Api_Element (some [y58]) _ := ⟨.full, rfl⟩
  obtain ⟨z60, hz60, h⟩ := bindS h
  refine WO.ex rfl (nzx (fz_tmp' hv59.frz rfl) (stp_app (f := e_Api_Element) (ei := ty50) H 0 rfl rfl hv48 rfl hv59 rfl rfl rfl rfl (fun a => (e_Api_Element_one a).2.1) hz60)) ?_
  rintro v61 S ⟨hv61, H⟩
  replace H : Hp S0 R _ [(i1, .cells [(.int .u8 a50.Tag), (.str a50.Body), .nils])] [(v61, 3)] [] := H
  refine w v61 rfl rfl <| WO.nil <| KX.block_n <| KX.seq_n <| WC.region <| us 3 rfl <| WO.nil <| KX.seq_n ?_
  exact ih h v61 (hv61) kn (hs H)
  refine WC.condF rfl hc62 <| WC.exit <| KX.seq_x <| KX.seq_x ?_
  have h := oi h; subst h
  exact hbrk v48 (hv48) kn (hs H)
theorem s61 : ∀ k : Nat, ∀ {a0 : Int} {a1 : Sl Str} {r : Api_Element}, F61 k a0 a1 = some r → Q 61 [(.int .u8 a0), (encSl eS a1)] (.agg (c_Api_Element r)) := by
 intro k a0 a1 r h vs ha S
 unfold F61 at h
 refine evw_pureW (pf := fn61) rfl rfl ha (Nat.le_of_ble_eq_true rfl) (by simp [PV.clean, cleanL, clean_encSl clean_eS]) (by simp [PV.clean, cleanL, clean_encSl clean_Api_Element]) ?_
 refine WB.of (pf := fn61) rfl ?_
 have H := Hp.start []
 refine WC.seqR <| WO.alloc' (ti := ty50) rfl rfl rfl rfl H ?_
 intro i1 S hi1 H
 refine WO.nil <| WC.seqR <| us 1 rfl <| WO.nil <| WC.seq <| WC.seqR <| us 1 rfl <| WO.nil ?_
 obtain ⟨y64, hy64, hOy64⟩ := bindS h
 refine WC.block ?_
 have H := H.addNil 3
 refine l61_L0 hi1 ?_ hy64 .nils ((isSl_nil _)) kn (hs H)
 intro σ S v65 hv65 hk H; replace h := hOy64
 refine KX.of_known hk <| KX.block_x <| KX.seq_n <| WC.seqR <| us 1 rfl <| w v65 rfl rfl ?_
 obtain ⟨y66, hy66, h⟩ := bindS h
 refine cl (.agg (c_Api_Element y66)) [(.int .u8 a0), v65] rfl rfl rfl (fz_tmp' rfl (fz_tmp' hv65.frz rfl)) (s25 _ hy66 (by simp only [st_int, hv65.strip, List.map_cons, List.map_nil, tupled])) <| wos 0 H hi1 rfl rfl rfl rfl rfl rfl rfl rfl rfl rfl ?_
 intro S H
 replace H : Hp [] [] _ [(i1, .cells (c_Api_Element y66))] [(v65, 3)] [] := H
 refine WO.nil <| WC.ret ?_
 have h := oi h; subst h
 refine KB.ret (vs := [(.agg (c_Api_Element y66))]) (res_cell rfl (H.get 0 rfl) rfl res_nil) (fl_cons' rfl rfl) ?_
 exact (by simp only [st_tup, List.map_cons, List.map_nil, tupled, st_agg, st1_int, st1_str, strip1_enc, e_Api_Element_eq, c_Api_Element])
def F60_L0 (rc0 : Api_Filter → Option Api_Element) (k : Nat) (a107 : Api_Element) (a108 : Api_Filter) : Nat → (Sl Api_Element) → Int → Option ((Sl Api_Element) × Int)
 | 0, _, _ => none
 | n + 1, x104, x106 =>
  if decide (x106 < (Sl.len a108.Kids)) then
  Option.bind (Sl.at? a108.Kids x106) fun y115 =>
  Option.bind (rc0 y115) fun y116 =>
  Option.bind (Sl.app? 48 x104 (Sl.l (some [y116]))) fun z118 =>
  F60_L0 rc0 k a107 a108 n z118 (ad .i64 x106 1)
  else
  some (x104, x106)
def F60_L3 (rc0 : Api_Filter → Option Api_Element) (k : Nat) (a2357 : Api_Element) (a2358 : Api_Filter) : Nat → (Sl Api_Element) → Int → Option ((Sl Api_Element) × Int)
 | 0, _, _ => none
 | n + 1, x2354, x2356 =>
  if decide (x2356 < (Sl.len a2358.Subs)) then
  Option.bind (if x2356 == 0 then
  some 128
  else
  Option.bind (if x2356 == (sb .i64 (Sl.len a2358.Subs) 1) then
  some 130
  else
  some 129) fun y2410 =>
  some y2410) fun y2407 =>
  Option.bind (Sl.at? a2358.Subs x2356) fun y2413 =>
  Option.bind (if !(y2413 == []) then
  Option.bind (Sl.at? a2358.Subs x2356) fun y2428 =>
  Option.bind (F58 k y2407 y2428) fun y2429 =>
  Option.bind (Sl.app? 48 x2354 (Sl.l (some [y2429]))) fun z2431 =>
  some z2431
  else
  some x2354) fun y2426 =>
  F60_L3 rc0 k a2357 a2358 n y2426 (ad .i64 x2356 1)
  else
  some (x2354, x2356)
def F60 : Nat → Api_Filter → Option Api_Element
 | 0, _ => none
 | k + 1, a0 =>
  if decide (a0.Kind ≤ 3) then
  Option.bind (F60_L0 (F60 k) k (Api_Element.mk 0 [] none) a0 k none 0) fun y122 =>
  Option.bind (F25 k (cv .u8 (ad .i64 159 a0.Kind)) y122.1) fun y124 =>
  some y124
  else
  if a0.Kind == 7 then
  Option.bind (F58 k 135 a0.Attr) fun y1877 =>
  some y1877
  else
  if a0.Kind == 8 then
  Option.bind (F60_L3 (F60 k) k (Api_Element.mk 0 [] none) a0 k none 0) fun y2436 =>
  Option.bind (F57 k a0.Attr) fun y2438 =>
  Option.bind (F25 k 48 y2436.1) fun y2439 =>
  Option.bind (F25 k 164 (some [y2438, y2439])) fun y2441 =>
  some y2441
  else
  if a0.Kind == 4 then
  Option.bind (F61 k 163 (some [a0.Attr, a0.Value])) fun y2452 =>
  some y2452
  else
  if a0.Kind == 5 then
  Option.bind (F61 k 165 (some [a0.Attr, a0.Value])) fun y2457 =>
  some y2457
  else
  Option.bind (F61 k 166 (some [a0.Attr, a0.Value])) fun y2459 =>
  some y2459
theorem l60_L0 {rc0 : Api_Filter → Option Api_Element} (hrc0 : ∀ {a0 : Api_Filter} {r : Api_Element}, rc0 a0 = some r → Q 60 [(.agg (c_Api_Filter a0))] (.agg (c_Api_Element r))) {k : Nat} {a107 : Api_Element} {a108 : Api_Filter} {S0 : List SObj} {R : List Nat} {K : KX} {i2 : Nat} {i1 : Nat} (hi2 : S0.length ≤ i2) (hi1 : S0.length ≤ i1)  {o : ((Sl Api_Element) × Int)}
  (hbrk : ∀ {σ' : Nat → PV} {S' : List SObj}, ∀ (v121 : PV) (_ : IsSl e_Api_Element o.1 v121), Known [(1, (.ptr i1 0)), (2, (.ptr i2 0)), (3, v121)] σ' → Hp S0 R S' [(i2, .cells [(.int .u8 a107.Tag), (.str a107.Body), .nils]), (i1, .cells (c_Api_Filter a108))] [(v121, 3)] [] → K (.exit 0) σ' S' false) :
  ∀ {n : Nat} {x104 : Sl Api_Element} {x106 : Int}, F60_L0 rc0 k a107 a108 n x104 x106 = some o → ∀ {σ : Nat → PV} {S : List SObj}, ∀ (v105 : PV) (_ : IsSl e_Api_Element x104 v105), Known [(1, (.ptr i1 0)), (2, (.ptr i2 0)), (3, v105), (4, (.int .i64 x106))] σ → Hp S0 R S [(i2, .cells [(.int .u8 a107.Tag), (.str a107.Body), .nils]), (i1, .cells (c_Api_Filter a108))] [(v105, 3)] [] → WC env ⟨102, S0.length⟩ (.loop pc60L0) σ S false K := by
 intro n
 induction n with
 | zero => intro _ _ h; cases h
 | succ n ih =>
  intro x104 x106 h σ S v105 hv105 hk H
  rw [F60_L0] at h
  refine WC.loop <| WC.of_known hk <| WC.seq <| WC.seqR <| us 2 rfl <| wg H 1 rfl rfl rfl rfl <| wl rfl rfl rfl <| us 1 rfl <| WO.nil ?_
  rcases iteS h with ⟨hc120, h⟩ | ⟨hc120, h⟩
  refine WC.condT rfl hc120 <| WC.skip <| KX.seq_n <| WC.seq <| WC.block <| WC.region <| w v105 rfl rfl <| us 1 rfl <| wg H 1 rfl rfl rfl rfl <| us 1 rfl ?_
  obtain ⟨y115, hy115, h⟩ := bindS h
  refine w (.iptr (c_Api_Filter y115) 0) rfl (nz rfl (stp_idxAddr rfl (isSl_enc _ _) rfl rfl rfl hy115 (e_Api_Filter_cells _) rfl)) <| us 1 rfl ?_
  obtain ⟨y116, hy116, h⟩ := bindS h
  refine cl (.agg (c_Api_Element y116)) [(.agg (c_Api_Filter y115))] rfl rfl rfl rfl (sv (hrc0 hy116)) <| WS rfl (nz rfl (stp_buildSlice (ys := [y116]) (f := e_Api_Element) (parts := [(0, (.agg (c_Api_Element y116)))]) rfl rfl rfl rfl rfl (by simp only [st_agg, List.map_cons, List.map_nil, st1_int, st1_str, strip1_enc, e_Api_Element_eq, tupled]) (fc ⟨rfl, rfl⟩ (fun p hp => nomatch hp)) rfl)) ?_
  have hv117 : IsSl e_Api_Element (some [y116]) _ := ⟨.full, rfl⟩
  obtain ⟨z118, hz118, h⟩ := bindS h
  refine WO.ex rfl (nzx (fz_tmp' hv117.frz rfl) (stp_app (f := e_Api_Element) (ei := ty50) H 0 rfl rfl hv105 rfl hv117 rfl rfl rfl rfl (fun a => (e_Api_Element_one a).2.1) hz118)) ?_
  rintro v119 S ⟨hv119, H⟩
  replace H : Hp S0 R _ [(i2, .cells [(.int .u8 a107.Tag), (.str a107.Body), .nils]), (i1, .cells (c_Api_Filter a108))] [(v119, 3)] [] := H
  refine w v119 rfl rfl <| WO.nil <| KX.block_n <| KX.seq_n <| WC.region <| us 3 rfl <| WO.nil <| KX.seq_n ?_
  exact ih h v119 (hv119) kn (hs H)
  refine WC.condF rfl hc120 <| WC.exit <| KX.seq_x <| KX.seq_x ?_
  have h := oi h; subst h
  exact hbrk v105 (hv105) kn (hs H)
theorem l60_L3 {rc0 : Api_Filter → Option Api_Element} (hrc0 : ∀ {a0 : Api_Filter} {r : Api_Element}, rc0 a0 = some r → Q 60 [(.agg (c_Api_Filter a0))] (.agg (c_Api_Element r))) {k : Nat} {a2357 : Api_Element} {a2358 : Api_Filter} {S0 : List SObj} {R : List Nat} {K : KX} {i2 : Nat} {i1 : Nat} (hi2 : S0.length ≤ i2) (hi1 : S0.length ≤ i1)  {o : ((Sl Api_Element) × Int)}
  (hbrk : ∀ {σ' : Nat → PV} {S' : List SObj}, ∀ (v2435 : PV) (_ : IsSl e_Api_Element o.1 v2435), Known [(1, (.ptr i1 0)), (2, (.ptr i2 0)), (5, v2435)] σ' → Hp S0 R S' [(i2, .cells [(.int .u8 a2357.Tag), (.str a2357.Body), .nils]), (i1, .cells (c_Api_Filter a2358))] [(v2435, 3)] [] → K (.exit 3) σ' S' false) :
  ∀ {n : Nat} {x2354 : Sl Api_Element} {x2356 : Int}, F60_L3 rc0 k a2357 a2358 n x2354 x2356 = some o → ∀ {σ : Nat → PV} {S : List SObj}, ∀ (v2355 : PV) (_ : IsSl e_Api_Element x2354 v2355), Known [(1, (.ptr i1 0)), (2, (.ptr i2 0)), (5, v2355), (6, (.int .i64 x2356))] σ → Hp S0 R S [(i2, .cells [(.int .u8 a2357.Tag), (.str a2357.Body), .nils]), (i1, .cells (c_Api_Filter a2358))] [(v2355, 3)] [] → WC env ⟨102, S0.length⟩ (.loop pc60L3) σ S false K := by
 intro n
 induction n with
 | zero => intro _ _ h; cases h
 | succ n ih =>
  intro x2354 x2356 h σ S v2355 hv2355 hk H
  rw [F60_L3] at h
  refine WC.loop <| WC.of_known hk <| WC.seq <| WC.seqR <| us 2 rfl <| wg H 1 rfl rfl rfl rfl <| wl rfl rfl rfl <| us 1 rfl <| WO.nil ?_
  rcases iteS h with ⟨hc2434, h⟩ | ⟨hc2434, h⟩
  refine WC.condT rfl hc2434 <| WC.skip <| KX.seq_n <| WC.seq <| WC.block <| WC.seqR <| us 1 rfl <| WO.nil <| WC.seq <| WC.seqR <| us 2 rfl <| WO.nil ?_
  obtain ⟨y2407, hy2407, hOy2407⟩ := bindS h
  refine WC.join (SJ [(1, (.ptr i1 0)), (2, (.ptr i2 0)), (5, v2355), (6, (.int .i64 x2356)), (7, (.int .u8 y2407))] S0 R [(i2, .cells [(.int .u8 a2357.Tag), (.str a2357.Body), .nils]), (i1, .cells (c_Api_Filter a2358))] [(v2355, 3)] [] false) ?_ ?_
  replace h := hy2407
  rcases iteS h with ⟨hc2412, h⟩ | ⟨hc2412, h⟩
  refine WC.condT rfl hc2412 <| WC.region <| us 1 rfl <| WO.nil <| KX.seq_n ?_
  have h := oi h; subst h
  exact kh H
  refine WC.condF rfl hc2412 <| WC.seqR <| us 2 rfl <| wg H 1 rfl rfl rfl rfl <| wl rfl rfl rfl <| us 2 rfl <| WO.nil ?_
  obtain ⟨y2410, hy2410, hOy2410⟩ := bindS h
  refine WC.join (SJ [(1, (.ptr i1 0)), (2, (.ptr i2 0)), (5, v2355), (6, (.int .i64 x2356)), (7, (.int .u8 y2410))] S0 R [(i2, .cells [(.int .u8 a2357.Tag), (.str a2357.Body), .nils]), (i1, .cells (c_Api_Filter a2358))] [(v2355, 3)] [] false) ?_ ?_
  replace h := hy2410
  rcases iteS h with ⟨hc2411, h⟩ | ⟨hc2411, h⟩
  refine WC.condT rfl hc2411 <| WC.region <| us 1 rfl <| WO.nil <| KX.seq_n ?_
  have h := oi h; subst h
  exact kh H
  refine WC.condF rfl hc2411 <| WC.skip <| KX.seq_n ?_
  have h := oi h; subst h
  exact kh H
  rintro σ S e ⟨hk, H, rfl⟩
  replace h := hOy2410
  refine KX.of_known hk <| KX.seq_n ?_
  have h := oi h; subst h
  exact kh H
  rintro σ S e ⟨hk, H, rfl⟩
  replace h := hOy2407
  refine KX.of_known hk <| KX.seq_n <| WC.seqR <| us 1 rfl <| wg H 1 rfl rfl rfl rfl <| us 1 rfl ?_
  obtain ⟨y2413, hy2413, h⟩ := bindS h
  refine w (.iptr [(.str y2413)] 0) rfl (nz rfl (stp_idxAddr rfl (isSl_enc _ _) rfl rfl rfl hy2413 rfl rfl)) <| us 2 rfl <| WO.nil ?_
  obtain ⟨y2426, hy2426, hOy2426⟩ := bindS h
  refine WC.join (fun σ' S' e' => ∃ v2427, IsSl e_Api_Element y2426 v2427 ∧ Known ([(1, (.ptr i1 0)), (2, (.ptr i2 0)), (5, v2427), (6, (.int .i64 x2356))]) σ' ∧ Hp S0 R S' [(i2, .cells [(.int .u8 a2357.Tag), (.str a2357.Body), .nils]), (i1, .cells (c_Api_Filter a2358))] [(v2427, 3)] [] ∧ e' = false) ?_ ?_
  replace h := hy2426
  rcases iteS h with ⟨hc2433, h⟩ | ⟨hc2433, h⟩
  refine WC.condT rfl hc2433 <| WC.region <| w v2355 rfl rfl <| us 2 rfl <| wg H 1 rfl rfl rfl rfl <| us 1 rfl ?_
  obtain ⟨y2428, hy2428, h⟩ := bindS h
  refine w (.iptr [(.str y2428)] 0) rfl (nz rfl (stp_idxAddr rfl (isSl_enc _ _) rfl rfl rfl hy2428 rfl rfl)) <| us 1 rfl ?_
  obtain ⟨y2429, hy2429, h⟩ := bindS h
  refine cl (.agg (c_Api_Element y2429)) [(.int .u8 y2407), (.str y2428)] rfl rfl rfl rfl (s58 _ hy2429 rfl) <| WS rfl (nz rfl (stp_buildSlice (ys := [y2429]) (f := e_Api_Element) (parts := [(0, (.agg (c_Api_Element y2429)))]) rfl rfl rfl rfl rfl (by simp only [st_agg, List.map_cons, List.map_nil, st1_int, st1_str, strip1_enc, e_Api_Element_eq, tupled]) (fc ⟨rfl, rfl⟩ (fun p hp => nomatch hp)) rfl)) ?_
  have hv2430 : IsSl e_Api_Element (some [y2429]) _ := ⟨.full, rfl⟩
  obtain ⟨z2431, hz2431, h⟩ := bindS h
  refine WO.ex rfl (nzx (fz_tmp' hv2430.frz rfl) (stp_app (f := e_Api_Element) (ei := ty50) H 0 rfl rfl hv2355 rfl hv2430 rfl rfl rfl rfl (fun a => (e_Api_Element_one a).2.1) hz2431)) ?_
  rintro v2432 S ⟨hv2432, H⟩
  replace H : Hp S0 R _ [(i2, .cells [(.int .u8 a2357.Tag), (.str a2357.Body), .nils]), (i1, .cells (c_Api_Filter a2358))] [(v2432, 3)] [] := H
  refine w v2432 rfl rfl <| WO.nil <| KX.seq_n ?_
  have h := oi h; subst h
  exact ⟨v2432, hv2432, kn, (hs H), rfl⟩
  refine WC.condF rfl hc2433 <| WC.skip <| KX.seq_n ?_
  have h := oi h; subst h
  exact ⟨v2355, hv2355, kn, (hs H), rfl⟩
  rintro σ S e ⟨v2427, hv2427, hk, H, rfl⟩
  replace h := hOy2426
  refine KX.of_known hk <| KX.block_n <| KX.seq_n <| WC.region <| us 3 rfl <| WO.nil <| KX.seq_n ?_
  exact ih h v2427 (hv2427) kn (hs H)
  refine WC.condF rfl hc2434 <| WC.exit <| KX.seq_x <| KX.seq_x ?_
  have h := oi h; subst h
  exact hbrk v2355 (hv2355) kn (hs H)
theorem s60 : ∀ k : Nat, ∀ {a0 : Api_Filter} {r : Api_Element}, F60 k a0 = some r → Q 60 [(.agg (c_Api_Filter a0))] (.agg (c_Api_Element r)) := by
 intro k
 induction k with
 | zero => intro _ r h; cases h
 | succ k ih =>
  intro a0 r h vs ha S
  rw [F60] at h
  refine evw_pureW (pf := fn60) rfl rfl ha (Nat.le_of_ble_eq_true rfl) (by simp [PV.clean, cleanL, clean_encSl clean_Api_Filter, clean_encSl clean_eS]) (by simp [PV.clean, cleanL, clean_encSl clean_Api_Element]) ?_
  refine WB.of (pf := fn60) rfl ?_
  have H := Hp.start []
  refine WC.seqR <| WO.box' rfl rfl rfl rfl rfl H ?_
  intro i1 S hi1 H
  refine WO.alloc' (ti := ty50) rfl rfl rfl rfl H ?_
  intro i2 S hi2 H
  refine WO.nil <| WC.seq <| WC.seqR <| us 1 rfl <| wg H 1 rfl rfl rfl rfl <| us 1 rfl <| WO.nil ?_
  rcases iteS h with ⟨hc2464, h⟩ | ⟨hc2464, h⟩
  refine WC.condT rfl hc2464 <| WC.seqR <| us 1 rfl <| WO.nil <| WC.seq <| WC.seqR <| us 1 rfl <| WO.nil ?_
  obtain ⟨y122, hy122, hOy122⟩ := bindS h
  refine WC.block ?_
  have H := H.addNil 3
  refine l60_L0 ih hi2 hi1 ?_ hy122 .nils ((isSl_nil _)) kn (hs H)
  intro σ S v123 hv123 hk H; replace h := hOy122
  refine KX.of_known hk <| KX.block_x <| KX.seq_n <| WC.seqR <| us 1 rfl <| wg H 1 rfl rfl rfl rfl <| us 2 rfl <| w v123 rfl rfl ?_
  obtain ⟨y124, hy124, h⟩ := bindS h
  refine cl (.agg (c_Api_Element y124)) [(.int .u8 (cv .u8 (ad .i64 159 a0.Kind))), v123] rfl rfl rfl (fz_tmp' rfl (fz_tmp' hv123.frz rfl)) (s25 _ hy124 (by simp only [st_int, hv123.strip, List.map_cons, List.map_nil, tupled])) <| wos 0 H hi2 rfl rfl rfl rfl rfl rfl rfl rfl rfl rfl ?_
  intro S H
  replace H : Hp [] [] _ [(i2, .cells (c_Api_Element y124)), (i1, .cells (c_Api_Filter a0))] [(v123, 3)] [] := H
  refine WO.nil <| WC.ret <| KX.seq_r ?_
  have h := oi h; subst h
  refine KB.ret (vs := [(.agg (c_Api_Element y124))]) (res_cell rfl (H.get 0 rfl) rfl res_nil) (fl_cons' rfl rfl) ?_
  exact (by simp only [st_tup, List.map_cons, List.map_nil, tupled, st_agg, st1_int, st1_str, strip1_enc, e_Api_Element_eq, c_Api_Element])
  refine WC.condF rfl hc2464 <| WC.skip <| KX.seq_n <| WC.seq <| WC.seqR <| us 1 rfl <| wg H 1 rfl rfl rfl rfl <| WO.nil <| WC.block <| WC.seqR <| us 2 rfl <| WO.nil ?_
  rcases iteS h with ⟨hc2463, h⟩ | ⟨hc2463, h⟩
  refine WC.condT rfl hc2463 <| WC.seqR <| us 1 rfl <| wg H 1 rfl rfl rfl rfl ?_
  obtain ⟨y1877, hy1877, h⟩ := bindS h
  refine cl (.agg (c_Api_Element y1877)) [(.int .u8 135), (.str a0.Attr)] rfl rfl rfl rfl (s58 _ hy1877 rfl) <| wos 0 H hi2 rfl rfl rfl rfl rfl rfl rfl rfl rfl rfl ?_
  intro S H
  replace H : Hp [] [] _ [(i2, .cells (c_Api_Element y1877)), (i1, .cells (c_Api_Filter a0))] [] [] := H
  refine WO.nil <| WC.ret <| KX.block_r <| KX.seq_r ?_
  have h := oi h; subst h
  refine KB.ret (vs := [(.agg (c_Api_Element y1877))]) (res_cell rfl (H.get 0 rfl) rfl res_nil) (fl_cons' rfl rfl) ?_
  exact (by simp only [st_tup, List.map_cons, List.map_nil, tupled, st_agg, st1_int, st1_str, strip1_enc, e_Api_Element_eq, c_Api_Element])
  refine WC.condF rfl hc2463 <| WC.seqR <| us 2 rfl <| WO.nil ?_
  rcases iteS h with ⟨hc2462, h⟩ | ⟨hc2462, h⟩
  refine WC.condT rfl hc2462 <| WC.seqR <| us 1 rfl <| WO.nil <| WC.seq <| WC.seqR <| us 1 rfl <| WO.nil ?_
  obtain ⟨y2436, hy2436, hOy2436⟩ := bindS h
  refine WC.block ?_
  have H := H.addNil 3
  refine l60_L3 ih hi2 hi1 ?_ hy2436 .nils ((isSl_nil _)) kn (hs H)
  intro σ S v2437 hv2437 hk H; replace h := hOy2436
  refine KX.of_known hk <| KX.block_x <| KX.seq_n <| WC.seqR <| us 1 rfl <| wg H 1 rfl rfl rfl rfl ?_
  obtain ⟨y2438, hy2438, h⟩ := bindS h
  refine cl (.agg (c_Api_Element y2438)) [(.str a0.Attr)] rfl rfl rfl rfl (s57 _ hy2438 rfl) <| w v2437 rfl rfl ?_
  obtain ⟨y2439, hy2439, h⟩ := bindS h
  refine cl (.agg (c_Api_Element y2439)) [(.int .u8 48), v2437] rfl rfl rfl (fo rfl (fz_tmp' hv2437.frz rfl)) (s25 _ hy2439 (by simp only [st_int, hv2437.strip, List.map_cons, List.map_nil, tupled])) <| WS rfl (nz rfl (stp_buildSlice (ys := [y2438, y2439]) (f := e_Api_Element) (parts := [(0, (.agg (c_Api_Element y2438))), (1, (.agg (c_Api_Element y2439)))]) rfl rfl rfl rfl rfl (by simp only [st_agg, List.map_cons, List.map_nil, st1_int, st1_str, strip1_enc, e_Api_Element_eq, tupled]) (fc ⟨rfl, rfl⟩ (fc ⟨rfl, rfl⟩ (fun p hp => nomatch hp))) rfl)) ?_
  have hv2440 : IsSl e_Api_Element (some [y2438, y2439]) _ := ⟨.full, rfl⟩
  obtain ⟨y2441, hy2441, h⟩ := bindS h
  refine cl (.agg (c_Api_Element y2441)) [(.int .u8 164), (.lst (List.map e_Api_Element [y2438, y2439]) .full)] rfl rfl rfl (fo rfl (fz_tmp' hv2440.frz rfl)) (s25 _ hy2441 (by simp only [st_int, hv2440.strip, st_lst, encSl_some, eI, eB, eS, List.map_cons, List.map_nil, tupled])) <| wos 0 H hi2 rfl rfl rfl rfl rfl rfl rfl rfl rfl rfl ?_
  intro S H
  replace H : Hp [] [] _ [(i2, .cells (c_Api_Element y2441)), (i1, .cells (c_Api_Filter a0))] [(v2437, 3)] [] := H
  refine WO.nil <| WC.ret <| KX.block_r <| KX.seq_r ?_
  have h := oi h; subst h
  refine KB.ret (vs := [(.agg (c_Api_Element y2441))]) (res_cell rfl (H.get 0 rfl) rfl res_nil) (fl_cons' rfl rfl) ?_
  exact (by simp only [st_tup, List.map_cons, List.map_nil, tupled, st_agg, st1_int, st1_str, strip1_enc, e_Api_Element_eq, c_Api_Element])
  refine WC.condF rfl hc2462 <| WC.seqR <| us 2 rfl <| WO.nil ?_
  rcases iteS h with ⟨hc2461, h⟩ | ⟨hc2461, h⟩
  refine WC.condT rfl hc2461 <| WC.seqR <| us 1 rfl <| wg H 1 rfl rfl rfl rfl <| us 1 rfl <| wg H 1 rfl rfl rfl rfl <| WS rfl (nz rfl (stp_buildSlice (ys := [a0.Attr, a0.Value]) (f := eS) (parts := [(0, (.str a0.Attr)), (1, (.str a0.Value))]) rfl rfl rfl rfl rfl rfl (fc ⟨rfl, rfl⟩ (fc ⟨rfl, rfl⟩ (fun p hp => nomatch hp))) rfl)) ?_
  have hv2451 : IsSl eS (some [a0.Attr, a0.Value]) _ := ⟨.full, rfl⟩
  obtain ⟨y2452, hy2452, h⟩ := bindS h
  refine cl (.agg (c_Api_Element y2452)) [(.int .u8 163), (.lst (List.map eS [a0.Attr, a0.Value]) .full)] rfl rfl rfl (fo rfl (fz_tmp' hv2451.frz rfl)) (s61 _ hy2452 (by simp only [st_int, hv2451.strip, st_lst, encSl_some, eI, eB, eS, List.map_cons, List.map_nil, tupled])) <| wos 0 H hi2 rfl rfl rfl rfl rfl rfl rfl rfl rfl rfl ?_
  intro S H
  replace H : Hp [] [] _ [(i2, .cells (c_Api_Element y2452)), (i1, .cells (c_Api_Filter a0))] [] [] := H
  refine WO.nil <| WC.ret <| KX.block_r <| KX.seq_r ?_
  have h := oi h; subst h
  refine KB.ret (vs := [(.agg (c_Api_Element y2452))]) (res_cell rfl (H.get 0 rfl) rfl res_nil) (fl_cons' rfl rfl) ?_
  exact (by simp only [st_tup, List.map_cons, List.map_nil, tupled, st_agg, st1_int, st1_str, strip1_enc, e_Api_Element_eq, c_Api_Element])
  refine WC.condF rfl hc2461 <| WC.seqR <| us 2 rfl <| WO.nil ?_
  rcases iteS h with ⟨hc2460, h⟩ | ⟨hc2460, h⟩
  refine WC.condT rfl hc2460 <| WC.seqR <| us 1 rfl <| wg H 1 rfl rfl rfl rfl <| us 1 rfl <| wg H 1 rfl rfl rfl rfl <| WS rfl (nz rfl (stp_buildSlice (ys := [a0.Attr, a0.Value]) (f := eS) (parts := [(0, (.str a0.Attr)), (1, (.str a0.Value))]) rfl rfl rfl rfl rfl rfl (fc ⟨rfl, rfl⟩ (fc ⟨rfl, rfl⟩ (fun p hp => nomatch hp))) rfl)) ?_
  have hv2456 : IsSl eS (some [a0.Attr, a0.Value]) _ := ⟨.full, rfl⟩
  obtain ⟨y2457, hy2457, h⟩ := bindS h
  refine cl (.agg (c_Api_Element y2457)) [(.int .u8 165), (.lst (List.map eS [a0.Attr, a0.Value]) .full)] rfl rfl rfl (fo rfl (fz_tmp' hv2456.frz rfl)) (s61 _ hy2457 (by simp only [st_int, hv2456.strip, st_lst, encSl_some, eI, eB, eS, List.map_cons, List.map_nil, tupled])) <| wos 0 H hi2 rfl rfl rfl rfl rfl rfl rfl rfl rfl rfl ?_
  intro S H
  replace H : Hp [] [] _ [(i2, .cells (c_Api_Element y2457)), (i1, .cells (c_Api_Filter a0))] [] [] := H
  refine WO.nil <| WC.ret <| KX.block_r <| KX.seq_r ?_
  have h := oi h; subst h
  refine KB.ret (vs := [(.agg (c_Api_Element y2457))]) (res_cell rfl (H.get 0 rfl) rfl res_nil) (fl_cons' rfl rfl) ?_
  exact (by simp only [st_tup, List.map_cons, List.map_nil, tupled, st_agg, st1_int, st1_str, strip1_enc, e_Api_Element_eq, c_Api_Element])
  refine WC.condF rfl hc2460 <| WC.skip <| KX.block_n <| KX.seq_n <| WC.seqR <| us 1 rfl <| wg H 1 rfl rfl rfl rfl <| us 1 rfl <| wg H 1 rfl rfl rfl rfl <| WS rfl (nz rfl (stp_buildSlice (ys := [a0.Attr, a0.Value]) (f := eS) (parts := [(0, (.str a0.Attr)), (1, (.str a0.Value))]) rfl rfl rfl rfl rfl rfl (fc ⟨rfl, rfl⟩ (fc ⟨rfl, rfl⟩ (fun p hp => nomatch hp))) rfl)) ?_
  have hv2458 : IsSl eS (some [a0.Attr, a0.Value]) _ := ⟨.full, rfl⟩
  obtain ⟨y2459, hy2459, h⟩ := bindS h
  refine cl (.agg (c_Api_Element y2459)) [(.int .u8 166), (.lst (List.map eS [a0.Attr, a0.Value]) .full)] rfl rfl rfl (fo rfl (fz_tmp' hv2458.frz rfl)) (s61 _ hy2459 (by simp only [st_int, hv2458.strip, st_lst, encSl_some, eI, eB, eS, List.map_cons, List.map_nil, tupled])) <| wos 0 H hi2 rfl rfl rfl rfl rfl rfl rfl rfl rfl rfl ?_
  intro S H
  replace H : Hp [] [] _ [(i2, .cells (c_Api_Element y2459)), (i1, .cells (c_Api_Filter a0))] [] [] := H
  refine WO.nil <| WC.ret ?_
  have h := oi h; subst h
  refine KB.ret (vs := [(.agg (c_Api_Element y2459))]) (res_cell rfl (H.get 0 rfl) rfl res_nil) (fl_cons' rfl rfl) ?_
  exact (by simp only [st_tup, List.map_cons, List.map_nil, tupled, st_agg, st1_int, st1_str, strip1_enc, e_Api_Element_eq, c_Api_Element])
def F62_L0 (k : Nat) (a92 : Sl Api_Mod) (a96 : Api_Element) : Nat → (Sl Api_Element) → Int → Option ((Sl Api_Element) × Int)
 | 0, _, _ => none
 | n + 1, x93, x95 =>
  if decide (x95 < (Sl.len a92)) then
  Option.bind (Sl.at? a92 x95) fun y113 =>
  Option.bind (F57 k y113.Attr) fun y114 =>
  Option.bind (Sl.at? a92 x95) fun y115 =>
  Option.bind (F61 k 49 y115.Values) fun y116 =>
  Option.bind (F25 k 48 (some [y114, y116])) fun y118 =>
  Option.bind (Sl.at? a92 x95) fun y121 =>
  Option.bind (F56 k 10 (sb .i64 y121.Kind 1)) fun y122 =>
  Option.bind (F25 k 48 (some [y122, y118])) fun y124 =>
  Option.bind (Sl.app? 48 x93 (Sl.l (some [y124]))) fun z126 =>
  F62_L0 k a92 a96 n z126 (ad .i64 x95 1)
  else
  some (x93, x95)
def F62 (k : Nat) (a0 : Sl Api_Mod) : Option Api_Element :=
 Option.bind (F62_L0 k a0 (Api_Element.mk 0 [] none) k none 0) fun y130 =>
 Option.bind (F25 k 48 y130.1) fun y132 =>
 some y132
theorem l62_L0 {k : Nat} {a92 : Sl Api_Mod} {a96 : Api_Element} {S0 : List SObj} {R : List Nat} {K : KX} {i1 : Nat} (hi1 : S0.length ≤ i1)  {o : ((Sl Api_Element) × Int)}
  (hbrk : ∀ {σ' : Nat → PV} {S' : List SObj}, ∀ (v129 : PV) (_ : IsSl e_Api_Element o.1 v129), Known [(2, (.ptr i1 0)), (3, v129)] σ' → Hp S0 R S' [(i1, .cells [(.int .u8 a96.Tag), (.str a96.Body), .nils])] [(v129, 3)] [] → K (.exit 0) σ' S' false) :
  ∀ {n : Nat} {x93 : Sl Api_Element} {x95 : Int}, F62_L0 k a92 a96 n x93 x95 = some o → ∀ {σ : Nat → PV} {S : List SObj}, ∀ (v94 : PV) (_ : IsSl e_Api_Element x93 v94), Known [(0, (encSl e_Api_Mod a92)), (2, (.ptr i1 0)), (3, v94), (4, (.int .i64 x95))] σ → Hp S0 R S [(i1, .cells [(.int .u8 a96.Tag), (.str a96.Body), .nils])] [(v94, 3)] [] → WC env ⟨41, S0.length⟩ (.loop pc62L0) σ S false K := by
 intro n
 induction n with
 | zero => intro _ _ h; cases h
 | succ n ih =>
  intro x93 x95 h σ S v94 hv94 hk H
  rw [F62_L0] at h
  refine WC.loop <| WC.of_known hk <| WC.seq <| WC.seqR <| us 2 rfl <| wl rfl rfl rfl <| us 1 rfl <| WO.nil ?_
  rcases iteS h with ⟨hc128, h⟩ | ⟨hc128, h⟩
  refine WC.condT rfl hc128 <| WC.skip <| KX.seq_n <| WC.seq <| WC.block <| WC.seq <| WC.drawC <| wk (encSl e_Api_Mod a92) rfl rfl rfl rfl <| wk (.int .i64 x95) rfl rfl rfl rfl ?_
  obtain ⟨y113, hy113, h⟩ := bindS h
  refine WK.step (v := (.iptr (c_Api_Mod y113) 0)) rfl (nz rfl (stp_idxAddr rfl (isSl_enc _ _) rfl rfl rfl hy113 (e_Api_Mod_cells _) rfl)) rfl rfl rfl rfl <| wk (.iptr (c_Api_Mod y113) 1) rfl rfl rfl rfl <| wk (.str y113.Attr) rfl rfl rfl rfl ?_
  obtain ⟨y114, hy114, h⟩ := bindS h
  refine WK.step (v := (.agg (c_Api_Element y114))) rfl (pz rfl rfl (show List.map PV.strip [(.str y113.Attr)] = [(.str y113.Attr)] from rfl) rfl (s57 _ hy114 (show List.map PV.strip [(.str y113.Attr)] = [(.str y113.Attr)] from rfl) []) (by simp [PV.clean, cleanL, clean_encSl clean_Api_Element]) (by simp only [st_agg, List.map_cons, List.map_nil, st1_int, st1_str, strip1_enc, e_Api_Element_eq, tupled])) rfl rfl rfl rfl <| wk (encSl e_Api_Mod a92) rfl rfl rfl rfl <| wk (.int .i64 x95) rfl rfl rfl rfl ?_
  obtain ⟨y115, hy115, h⟩ := bindS h
  refine WK.step (v := (.iptr (c_Api_Mod y115) 0)) rfl (nz rfl (stp_idxAddr rfl (isSl_enc _ _) rfl rfl rfl hy115 (e_Api_Mod_cells _) rfl)) rfl rfl rfl rfl <| wk (.iptr (c_Api_Mod y115) 2) rfl rfl rfl rfl <| wk (encSl eS y115.Values) rfl rfl rfl rfl ?_
  obtain ⟨y116, hy116, h⟩ := bindS h
  refine WK.step (v := (.agg (c_Api_Element y116))) rfl (pz (fo rfl (fe rfl rfl)) rfl (show List.map PV.strip [(.int .u8 49), (encSl eS y115.Values)] = [(.int .u8 49), (encSl eS y115.Values)] from (by simp only [st_int, strip_enc, List.map_cons, List.map_nil, tupled])) (by simp [PV.clean, cleanL, clean_encSl clean_eS]) (s61 _ hy116 (show List.map PV.strip [(.int .u8 49), (encSl eS y115.Values)] = [(.int .u8 49), (encSl eS y115.Values)] from (by simp only [st_lst, st1_lst, st_int, strip_enc, List.map_cons, List.map_nil, tupled])) []) (by simp [PV.clean, cleanL, clean_encSl clean_Api_Element]) (by simp only [st_agg, List.map_cons, List.map_nil, st1_int, st1_str, strip1_enc, e_Api_Element_eq, tupled])) rfl rfl rfl (ind_pure (fc rfl (fc (isSl_enc _ _).notRow (fun p hp => nomatch hp)))) <| WK.step rfl (nz rfl (stp_buildSlice (ys := [y114, y116]) (f := e_Api_Element) (parts := [(0, (.agg (c_Api_Element y114))), (1, (.agg (c_Api_Element y116)))]) rfl rfl rfl rfl rfl (by simp only [st_agg, List.map_cons, List.map_nil, st1_int, st1_str, strip1_enc, e_Api_Element_eq, tupled]) (fc ⟨rfl, rfl⟩ (fc ⟨rfl, rfl⟩ (fun p hp => nomatch hp))) rfl)) rfl rfl rfl rfl ?_
  have hv117 : IsSl e_Api_Element (some [y114, y116]) _ := ⟨.full, rfl⟩
  obtain ⟨y118, hy118, h⟩ := bindS h
  refine WK.step (v := (.agg (c_Api_Element y118))) rfl (pz (fo rfl (fz_tmp' hv117.frz rfl)) rfl (show List.map PV.strip [(.int .u8 48), (.lst (List.map e_Api_Element [y114, y116]) .full)] = [(.int .u8 48), (encSl e_Api_Element (some [y114, y116]))] from (by simp only [st_int, hv117.strip, st_lst, encSl_some, eI, eB, eS, List.map_cons, List.map_nil, tupled])) (by simp [PV.clean, cleanL, clean_encSl clean_Api_Element]) (s25 _ hy118 (show List.map PV.strip [(.int .u8 48), (encSl e_Api_Element (some [y114, y116]))] = [(.int .u8 48), (encSl e_Api_Element (some [y114, y116]))] from (by simp only [st_lst, st1_lst, st_int, strip_enc, encSl_some, eI, eB, eS, List.map_cons, List.map_nil, tupled])) []) (by simp [PV.clean, cleanL, clean_encSl clean_Api_Element]) (by simp only [st_agg, List.map_cons, List.map_nil, st1_int, st1_str, strip1_enc, e_Api_Element_eq, tupled])) rfl rfl rfl (ind_pure (fc rfl (fc hv117.notRow (fun p hp => nomatch hp)))) ?_
  have Hh120 := H
  refine WK.alloc' (ti := ty50) rfl rfl rfl rfl H ?_
  intro i119 S hi119 H
  refine ⟨pend_nil, ?_⟩
  refine WK.nil <| wos 0 H hi119 rfl rfl rfl rfl rfl rfl rfl rfl rfl rfl ?_
  intro S H
  refine WO.nil <| KX.seq_n <| WC.draw <| wh (v94) rfl rfl <| wh (encSl e_Api_Mod a92) rfl rfl <| wh (.int .i64 x95) rfl rfl ?_
  obtain ⟨y121, hy121, h⟩ := bindS h
  refine WH.step (v := (.iptr (c_Api_Mod y121) 0)) rfl (nz rfl (stp_idxAddr rfl (isSl_enc _ _) rfl rfl rfl hy121 (e_Api_Mod_cells _) rfl)) rfl rfl <| wh (.iptr (c_Api_Mod y121) 0) rfl rfl <| wh (.int .i64 y121.Kind) rfl rfl <| wh (.int .i64 (sb .i64 y121.Kind 1)) rfl rfl ?_
  obtain ⟨y122, hy122, h⟩ := bindS h
  refine WH.step (v := (.agg (c_Api_Element y122))) rfl (nz rfl (stp_call (vs := [(.int .u8 10), (.int .i64 (sb .i64 y121.Kind 1))]) rfl rfl (s56 _ hy122 rfl _))) rfl rfl <| WH.step (v := (.agg (c_Api_Element y118))) rfl (nz rfl (stp_load rfl (H.get 0 rfl) rfl)) rfl rfl <| WH.step rfl (nz rfl (stp_buildSlice (ys := [y122, y118]) (f := e_Api_Element) (parts := [(0, (.agg (c_Api_Element y122))), (1, (.agg (c_Api_Element y118)))]) rfl rfl rfl rfl rfl (by simp only [st_agg, List.map_cons, List.map_nil, st1_int, st1_str, strip1_enc, e_Api_Element_eq, tupled]) (fc ⟨rfl, rfl⟩ (fc ⟨rfl, rfl⟩ (fun p hp => nomatch hp))) rfl)) rfl rfl ?_
  have hv123 : IsSl e_Api_Element (some [y122, y118]) _ := ⟨.full, rfl⟩
  obtain ⟨y124, hy124, h⟩ := bindS h
  refine WH.step (v := (.agg (c_Api_Element y124))) rfl (nz (fo rfl (fz_tmp' hv123.frz rfl)) (stp_call (vs := [(.int .u8 48), (.lst (List.map e_Api_Element [y122, y118]) .full)]) rfl rfl (s25 _ hy124 (by simp only [st_int, hv123.strip, st_lst, encSl_some, eI, eB, eS, List.map_cons, List.map_nil, tupled]) _))) rfl rfl <| WH.step rfl (nz rfl (stp_buildSlice (ys := [y124]) (f := e_Api_Element) (parts := [(0, (.agg (c_Api_Element y124)))]) rfl rfl rfl rfl rfl (by simp only [st_agg, List.map_cons, List.map_nil, st1_int, st1_str, strip1_enc, e_Api_Element_eq, tupled]) (fc ⟨rfl, rfl⟩ (fun p hp => nomatch hp)) rfl)) rfl rfl ?_
  have hv125 : IsSl e_Api_Element (some [y124]) _ := ⟨.full, rfl⟩
  refine WH.nil ?_
  obtain ⟨z126, hz126, h⟩ := bindS h
  refine WO.ex rfl (nzx (fz_tmp' hv125.frz rfl) (stp_app (f := e_Api_Element) (ei := ty50) H 0 rfl rfl hv94 rfl hv125 rfl rfl rfl rfl (fun a => (e_Api_Element_one a).2.1) hz126)) ?_
  rintro v127 S ⟨hv127, H⟩
  replace H : Hp S0 R _ [(i119, .cells (c_Api_Element y118)), (i1, .cells [(.int .u8 a96.Tag), (.str a96.Body), .nils])] [(v127, 3)] [] := H
  refine w v127 rfl rfl <| WO.nil <| KX.block_n <| KX.seq_n <| WC.region <| us 3 rfl <| WO.nil <| KX.seq_n ?_
  exact ih h v127 (hv127) kn (H.sub (.cons _ (.cons_cons _ .slnil)) (.cons_cons _ .slnil) .slnil)
  refine WC.condF rfl hc128 <| WC.exit <| KX.seq_x <| KX.seq_x ?_
  have h := oi h; subst h
  exact hbrk v94 (hv94) kn (hs H)
theorem s62 : ∀ k : Nat, ∀ {a0 : Sl Api_Mod} {r : Api_Element}, F62 k a0 = some r → Q 62 [(encSl e_Api_Mod a0)] (.agg (c_Api_Element r)) := by
 intro k a0 r h vs ha S
 unfold F62 at h
 refine evw_pureW (pf := fn62) rfl rfl ha (Nat.le_of_ble_eq_true rfl) (by simp [PV.clean, cleanL, clean_encSl clean_Api_Mod]) (by simp [PV.clean, cleanL, clean_encSl clean_Api_Element]) ?_
 refine WB.of (pf := fn62) rfl ?_
 have H := Hp.start []
 refine WC.seqR <| WO.alloc' (ti := ty50) rfl rfl rfl rfl H ?_
 intro i1 S hi1 H
 refine WO.nil <| WC.seqR <| us 1 rfl <| WO.nil <| WC.seq <| WC.seqR <| us 1 rfl <| WO.nil ?_
 obtain ⟨y130, hy130, hOy130⟩ := bindS h
 refine WC.block ?_
 have H := H.addNil 3
 refine l62_L0 hi1 ?_ hy130 .nils ((isSl_nil _)) kn (hs H)
 intro σ S v131 hv131 hk H; replace h := hOy130
 refine KX.of_known hk <| KX.block_x <| KX.seq_n <| WC.seqR <| w v131 rfl rfl ?_
 obtain ⟨y132, hy132, h⟩ := bindS h
 refine cl (.agg (c_Api_Element y132)) [(.int .u8 48), v131] rfl rfl rfl (fo rfl (fz_tmp' hv131.frz rfl)) (s25 _ hy132 (by simp only [st_int, hv131.strip, List.map_cons, List.map_nil, tupled])) <| wos 0 H hi1 rfl rfl rfl rfl rfl rfl rfl rfl rfl rfl ?_
 intro S H
 replace H : Hp [] [] _ [(i1, .cells (c_Api_Element y132))] [(v131, 3)] [] := H
 refine WO.nil <| WC.ret ?_
 have h := oi h; subst h
 refine KB.ret (vs := [(.agg (c_Api_Element y132))]) (res_cell rfl (H.get 0 rfl) rfl res_nil) (fl_cons' rfl rfl) ?_
 exact (by simp only [st_tup, List.map_cons, List.map_nil, tupled, st_agg, st1_int, st1_str, strip1_enc, e_Api_Element_eq, c_Api_Element])
def F63_L0 (k : Nat) (a62 : Sl Api_Mod) (a66 : Api_Element) : Nat → (Sl Api_Element) → Int → Option ((Sl Api_Element) × Int)
 | 0, _, _ => none
 | n + 1, x63, x65 =>
  if decide (x65 < (Sl.len a62)) then
  Option.bind (Sl.at? a62 x65) fun y77 =>
  Option.bind (F57 k y77.Attr) fun y78 =>
  Option.bind (Sl.at? a62 x65) fun y79 =>
  Option.bind (F61 k 49 y79.Values) fun y80 =>
  Option.bind (F25 k 48 (some [y78, y80])) fun y82 =>
  Option.bind (Sl.app? 48 x63 (Sl.l (some [y82]))) fun z84 =>
  F63_L0 k a62 a66 n z84 (ad .i64 x65 1)
  else
  some (x63, x65)
def F63 (k : Nat) (a0 : Sl Api_Mod) : Option Api_Element :=
 Option.bind (F63_L0 k a0 (Api_Element.mk 0 [] none) k none 0) fun y88 =>
 Option.bind (F25 k 48 y88.1) fun y90 =>
 some y90
theorem l63_L0 {k : Nat} {a62 : Sl Api_Mod} {a66 : Api_Element} {S0 : List SObj} {R : List Nat} {K : KX} {i1 : Nat} (hi1 : S0.length ≤ i1)  {o : ((Sl Api_Element) × Int)}
  (hbrk : ∀ {σ' : Nat → PV} {S' : List SObj}, ∀ (v87 : PV) (_ : IsSl e_Api_Element o.1 v87), Known [(2, (.ptr i1 0)), (3, v87)] σ' → Hp S0 R S' [(i1, .cells [(.int .u8 a66.Tag), (.str a66.Body), .nils])] [(v87, 3)] [] → K (.exit 0) σ' S' false) :
  ∀ {n : Nat} {x63 : Sl Api_Element} {x65 : Int}, F63_L0 k a62 a66 n x63 x65 = some o → ∀ {σ : Nat → PV} {S : List SObj}, ∀ (v64 : PV) (_ : IsSl e_Api_Element x63 v64), Known [(0, (encSl e_Api_Mod a62)), (2, (.ptr i1 0)), (3, v64), (4, (.int .i64 x65))] σ → Hp S0 R S [(i1, .cells [(.int .u8 a66.Tag), (.str a66.Body), .nils])] [(v64, 3)] [] → WC env ⟨30, S0.length⟩ (.loop pc63L0) σ S false K := by
 intro n
 induction n with
 | zero => intro _ _ h; cases h
 | succ n ih =>
  intro x63 x65 h σ S v64 hv64 hk H
  rw [F63_L0] at h
  refine WC.loop <| WC.of_known hk <| WC.seq <| WC.seqR <| us 2 rfl <| wl rfl rfl rfl <| us 1 rfl <| WO.nil ?_
  rcases iteS h with ⟨hc86, h⟩ | ⟨hc86, h⟩
  refine WC.condT rfl hc86 <| WC.skip <| KX.seq_n <| WC.seq <| WC.block <| WC.draw <| wh (v64) rfl rfl <| wh (encSl e_Api_Mod a62) rfl rfl <| wh (.int .i64 x65) rfl rfl ?_
  obtain ⟨y77, hy77, h⟩ := bindS h
  refine WH.step (v := (.iptr (c_Api_Mod y77) 0)) rfl (nz rfl (stp_idxAddr rfl (isSl_enc _ _) rfl rfl rfl hy77 (e_Api_Mod_cells _) rfl)) rfl rfl <| wh (.iptr (c_Api_Mod y77) 1) rfl rfl <| wh (.str y77.Attr) rfl rfl ?_
  obtain ⟨y78, hy78, h⟩ := bindS h
  refine WH.step (v := (.agg (c_Api_Element y78))) rfl (nz rfl (stp_call (vs := [(.str y77.Attr)]) rfl rfl (s57 _ hy78 rfl _))) rfl rfl <| wh (encSl e_Api_Mod a62) rfl rfl <| wh (.int .i64 x65) rfl rfl ?_
  obtain ⟨y79, hy79, h⟩ := bindS h
  refine WH.step (v := (.iptr (c_Api_Mod y79) 0)) rfl (nz rfl (stp_idxAddr rfl (isSl_enc _ _) rfl rfl rfl hy79 (e_Api_Mod_cells _) rfl)) rfl rfl <| wh (.iptr (c_Api_Mod y79) 2) rfl rfl <| wh (encSl eS y79.Values) rfl rfl ?_
  obtain ⟨y80, hy80, h⟩ := bindS h
  refine WH.step (v := (.agg (c_Api_Element y80))) rfl (nz (fo rfl (fe rfl rfl)) (stp_call (vs := [(.int .u8 49), (encSl eS y79.Values)]) rfl rfl (s61 _ hy80 (by simp only [st_int, strip_enc, List.map_cons, List.map_nil, tupled]) _))) rfl rfl <| WH.step rfl (nz rfl (stp_buildSlice (ys := [y78, y80]) (f := e_Api_Element) (parts := [(0, (.agg (c_Api_Element y78))), (1, (.agg (c_Api_Element y80)))]) rfl rfl rfl rfl rfl (by simp only [st_agg, List.map_cons, List.map_nil, st1_int, st1_str, strip1_enc, e_Api_Element_eq, tupled]) (fc ⟨rfl, rfl⟩ (fc ⟨rfl, rfl⟩ (fun p hp => nomatch hp))) rfl)) rfl rfl ?_
  have hv81 : IsSl e_Api_Element (some [y78, y80]) _ := ⟨.full, rfl⟩
  obtain ⟨y82, hy82, h⟩ := bindS h
  refine WH.step (v := (.agg (c_Api_Element y82))) rfl (nz (fo rfl (fz_tmp' hv81.frz rfl)) (stp_call (vs := [(.int .u8 48), (.lst (List.map e_Api_Element [y78, y80]) .full)]) rfl rfl (s25 _ hy82 (by simp only [st_int, hv81.strip, st_lst, encSl_some, eI, eB, eS, List.map_cons, List.map_nil, tupled]) _))) rfl rfl <| WH.step rfl (nz rfl (stp_buildSlice (ys := [y82]) (f := e_Api_Element) (parts := [(0, (.agg (c_Api_Element y82)))]) rfl rfl rfl rfl rfl (by simp only [st_agg, List.map_cons, List.map_nil, st1_int, st1_str, strip1_enc, e_Api_Element_eq, tupled]) (fc ⟨rfl, rfl⟩ (fun p hp => nomatch hp)) rfl)) rfl rfl ?_
  have hv83 : IsSl e_Api_Element (some [y82]) _ := ⟨.full, rfl⟩
  refine WH.nil ?_
  obtain ⟨z84, hz84, h⟩ := bindS h
  refine WO.ex rfl (nzx (fz_tmp' hv83.frz rfl) (stp_app (f := e_Api_Element) (ei := ty50) H 0 rfl rfl hv64 rfl hv83 rfl rfl rfl rfl (fun a => (e_Api_Element_one a).2.1) hz84)) ?_
  rintro v85 S ⟨hv85, H⟩
  replace H : Hp S0 R _ [(i1, .cells [(.int .u8 a66.Tag), (.str a66.Body), .nils])] [(v85, 3)] [] := H
  refine w v85 rfl rfl <| WO.nil <| KX.block_n <| KX.seq_n <| WC.region <| us 3 rfl <| WO.nil <| KX.seq_n ?_
  exact ih h v85 (hv85) kn (hs H)
  refine WC.condF rfl hc86 <| WC.exit <| KX.seq_x <| KX.seq_x ?_
  have h := oi h; subst h
  exact hbrk v64 (hv64) kn (hs H)
theorem s63 : ∀ k : Nat, ∀ {a0 : Sl Api_Mod} {r : Api_Element}, F63 k a0 = some r → Q 63 [(encSl e_Api_Mod a0)] (.agg (c_Api_Element r)) := by
 intro k a0 r h vs ha S
 unfold F63 at h
 refine evw_pureW (pf := fn63) rfl rfl ha (Nat.le_of_ble_eq_true rfl) (by simp [PV.clean, cleanL, clean_encSl clean_Api_Mod]) (by simp [PV.clean, cleanL, clean_encSl clean_Api_Element]) ?_
 refine WB.of (pf := fn63) rfl ?_
 have H := Hp.start []
 refine WC.seqR <| WO.alloc' (ti := ty50) rfl rfl rfl rfl H ?_
 intro i1 S hi1 H
 refine WO.nil <| WC.seqR <| us 1 rfl <| WO.nil <| WC.seq <| WC.seqR <| us 1 rfl <| WO.nil ?_
 obtain ⟨y88, hy88, hOy88⟩ := bindS h
 refine WC.block ?_
 have H := H.addNil 3
 refine l63_L0 hi1 ?_ hy88 .nils ((isSl_nil _)) kn (hs H)
 intro σ S v89 hv89 hk H; replace h := hOy88
 refine KX.of_known hk <| KX.block_x <| KX.seq_n <| WC.seqR <| w v89 rfl rfl ?_
 obtain ⟨y90, hy90, h⟩ := bindS h
 refine cl (.agg (c_Api_Element y90)) [(.int .u8 48), v89] rfl rfl rfl (fo rfl (fz_tmp' hv89.frz rfl)) (s25 _ hy90 (by simp only [st_int, hv89.strip, List.map_cons, List.map_nil, tupled])) <| wos 0 H hi1 rfl rfl rfl rfl rfl rfl rfl rfl rfl rfl ?_
 intro S H
 replace H : Hp [] [] _ [(i1, .cells (c_Api_Element y90))] [(v89, 3)] [] := H
 refine WO.nil <| WC.ret ?_
 have h := oi h; subst h
 refine KB.ret (vs := [(.agg (c_Api_Element y90))]) (res_cell rfl (H.get 0 rfl) rfl res_nil) (fl_cons' rfl rfl) ?_
 exact (by simp only [st_tup, List.map_cons, List.map_nil, tupled, st_agg, st1_int, st1_str, strip1_enc, e_Api_Element_eq, c_Api_Element])
def F27 (k : Nat) (a0 : Api_Msg) : Option Api_Element :=
 if a0.Op == 1 then
 Option.bind (F26 k 2 a0.Version) fun y11277 =>
 Option.bind (F57 k a0.DN) fun y11278 =>
 Option.bind (F58 k 128 a0.Pass) fun y11279 =>
 Option.bind (F25 k 96 (some [y11277, y11278, y11279])) fun y11281 =>
 some y11281
 else
 if a0.Op == 2 then
 Option.bind (F58 k 66 []) fun y13158 =>
 some y13158
 else
 if a0.Op == 3 then
 Option.bind (F57 k a0.DN) fun y14096 =>
 Option.bind (F26 k 10 a0.Scope) fun y14097 =>
 Option.bind (F26 k 10 0) fun y14098 =>
 Option.bind (F26 k 2 a0.Size) fun y14099 =>
 Option.bind (F26 k 2 0) fun y14100 =>
 Option.bind (F59 k false) fun y14101 =>
 Option.bind (F60 k a0.Filter) fun y14102 =>
 Option.bind (F61 k 48 a0.Wants) fun y14103 =>
 Option.bind (F25 k 99 (some [y14096, y14097, y14098, y14099, y14100, y14101, y14102, y14103])) fun y14105 =>
 some y14105
 else
 if a0.Op == 4 then
 Option.bind (F57 k a0.DN) fun y14569 =>
 Option.bind (F62 k a0.Mods) fun y14570 =>
 Option.bind (F25 k 102 (some [y14569, y14570])) fun y14572 =>
 some y14572
 else
 if a0.Op == 5 then
 Option.bind (F57 k a0.DN) fun y14802 =>
 Option.bind (F63 k a0.Mods) fun y14803 =>
 Option.bind (F25 k 104 (some [y14802, y14803])) fun y14805 =>
 some y14805
 else
 if a0.Op == 6 then
 Option.bind (F58 k 74 a0.DN) fun y14918 =>
 some y14918
 else
 if a0.Op == 7 then
 Option.bind (F57 k a0.DN) fun y14974 =>
 Option.bind (F57 k a0.RDN) fun y14975 =>
 Option.bind (F59 k a0.DelOld) fun y14976 =>
 Option.bind (if a0.HasSup then
 Option.bind (F58 k 128 a0.Sup) fun y14990 =>
 Option.bind (Sl.app? 48 (some [y14974, y14975, y14976]) (Sl.l (some [y14990]))) fun z14992 =>
 some z14992
 else
 some (some [y14974, y14975, y14976])) fun y14988 =>
 Option.bind (F25 k 108 y14988) fun y14995 =>
 some y14995
 else
 if a0.Op == 8 then
 Option.bind (F57 k a0.DN) fun y15012 =>
 Option.bind (F61 k 48 (some [a0.Attr, a0.Value])) fun y15014 =>
 Option.bind (F25 k 110 (some [y15012, y15014])) fun y15016 =>
 some y15016
 else
 if a0.Op == 10 then
 Option.bind (F57 k a0.DN) fun y15022 =>
 Option.bind (F63 k a0.Mods) fun y15023 =>
 Option.bind (F25 k 100 (some [y15022, y15023])) fun y15025 =>
 some y15025
 else
 Option.bind (Sl.at? (some [0, 97, 0, 101, 103, 105, 107, 109, 111]) a0.Of) fun y15027 =>
 Option.bind (F26 k 10 a0.Code) fun y15028 =>
 Option.bind (F57 k a0.Matched) fun y15029 =>
 Option.bind (F57 k []) fun y15030 =>
 Option.bind (F25 k y15027 (some [y15028, y15029, y15030])) fun y15032 =>
 some y15032
theorem s27 : ∀ k : Nat, ∀ {a0 : Api_Msg} {r : Api_Element}, F27 k a0 = some r → Q 27 [(.agg (c_Api_Msg a0))] (.agg (c_Api_Element r)) := by
 intro k a0 r h vs ha S
 unfold F27 at h
 refine evw_pureW (pf := fn27) rfl rfl ha (Nat.le_of_ble_eq_true rfl) (by simp [PV.clean, cleanL, clean_encSl clean_Api_Filter, clean_encSl clean_Api_Mod, clean_encSl clean_eS]) (by simp [PV.clean, cleanL, clean_encSl clean_Api_Element]) ?_
 refine WB.of (pf := fn27) rfl ?_
 have H := Hp.start []
 refine WC.seqR <| WO.box' rfl rfl rfl rfl rfl H ?_
 intro i1 S hi1 H
 refine WO.alloc' (ti := ty50) rfl rfl rfl rfl H ?_
 intro i2 S hi2 H
 refine WO.nil <| WC.seq <| WC.seqR <| us 1 rfl <| wg H 1 rfl rfl rfl rfl <| WO.nil <| WC.block <| WC.seqR <| us 2 rfl <| WO.nil ?_
 rcases iteS h with ⟨hc15041, h⟩ | ⟨hc15041, h⟩
 refine WC.condT rfl hc15041 <| WC.seq <| WC.draw <| wh (.ptr i1 4) rfl rfl <| WH.step (v := .int .i64 a0.Version) rfl (nz rfl (stp_load rfl (H.get 1 rfl) rfl)) rfl rfl ?_
 obtain ⟨y11277, hy11277, h⟩ := bindS h
 refine WH.step (v := (.agg (c_Api_Element y11277))) rfl (nz rfl (stp_call (vs := [(.int .u8 2), (.int .i64 a0.Version)]) rfl rfl (s26 _ hy11277 rfl _))) rfl rfl <| wh (.ptr i1 3) rfl rfl <| WH.step (v := .str a0.DN) rfl (nz rfl (stp_load rfl (H.get 1 rfl) rfl)) rfl rfl ?_
 obtain ⟨y11278, hy11278, h⟩ := bindS h
 refine WH.step (v := (.agg (c_Api_Element y11278))) rfl (nz rfl (stp_call (vs := [(.str a0.DN)]) rfl rfl (s57 _ hy11278 rfl _))) rfl rfl <| wh (.ptr i1 5) rfl rfl <| WH.step (v := .str a0.Pass) rfl (nz rfl (stp_load rfl (H.get 1 rfl) rfl)) rfl rfl <| WH.nil ?_
 obtain ⟨y11279, hy11279, h⟩ := bindS h
 refine cl (.agg (c_Api_Element y11279)) [(.int .u8 128), (.str a0.Pass)] rfl rfl rfl rfl (s58 _ hy11279 rfl) <| WS rfl (nz rfl (stp_buildSlice (ys := [y11277, y11278, y11279]) (f := e_Api_Element) (parts := [(0, (.agg (c_Api_Element y11277))), (1, (.agg (c_Api_Element y11278))), (2, (.agg (c_Api_Element y11279)))]) rfl rfl rfl rfl rfl (by simp only [st_agg, List.map_cons, List.map_nil, st1_int, st1_str, strip1_enc, e_Api_Element_eq, tupled]) (fc ⟨rfl, rfl⟩ (fc ⟨rfl, rfl⟩ (fc ⟨rfl, rfl⟩ (fun p hp => nomatch hp)))) rfl)) ?_
 have hv11280 : IsSl e_Api_Element (some [y11277, y11278, y11279]) _ := ⟨.full, rfl⟩
 obtain ⟨y11281, hy11281, h⟩ := bindS h
 refine cl (.agg (c_Api_Element y11281)) [(.int .u8 96), (.lst (List.map e_Api_Element [y11277, y11278, y11279]) .full)] rfl rfl rfl (fo rfl (fz_tmp' hv11280.frz rfl)) (s25 _ hy11281 (by simp only [st_int, hv11280.strip, st_lst, encSl_some, eI, eB, eS, List.map_cons, List.map_nil, tupled])) <| wos 0 H hi2 rfl rfl rfl rfl rfl rfl rfl rfl rfl rfl ?_
 intro S H
 replace H : Hp [] [] _ [(i2, .cells (c_Api_Element y11281)), (i1, .cells (c_Api_Msg a0))] [] [] := H
 refine WO.nil <| KX.seq_n <| WC.ret <| KX.block_r <| KX.seq_r ?_
 have h := oi h; subst h
 refine KB.ret (vs := [(.agg (c_Api_Element y11281))]) (res_cell rfl (H.get 0 rfl) rfl res_nil) (fl_cons' rfl rfl) ?_
 exact (by simp only [st_tup, List.map_cons, List.map_nil, tupled, st_agg, st1_int, st1_str, strip1_enc, e_Api_Element_eq, c_Api_Element])
 refine WC.condF rfl hc15041 <| WC.seqR <| us 2 rfl <| WO.nil ?_
 rcases iteS h with ⟨hc15040, h⟩ | ⟨hc15040, h⟩
 refine WC.condT rfl hc15040 <| WC.seqR ?_
 obtain ⟨y13158, hy13158, h⟩ := bindS h
 refine cl (.agg (c_Api_Element y13158)) [(.int .u8 66), (.str [])] rfl rfl rfl rfl (s58 _ hy13158 rfl) <| wos 0 H hi2 rfl rfl rfl rfl rfl rfl rfl rfl rfl rfl ?_
 intro S H
 replace H : Hp [] [] _ [(i2, .cells (c_Api_Element y13158)), (i1, .cells (c_Api_Msg a0))] [] [] := H
 refine WO.nil <| WC.ret <| KX.block_r <| KX.seq_r ?_
 have h := oi h; subst h
 refine KB.ret (vs := [(.agg (c_Api_Element y13158))]) (res_cell rfl (H.get 0 rfl) rfl res_nil) (fl_cons' rfl rfl) ?_
 exact (by simp only [st_tup, List.map_cons, List.map_nil, tupled, st_agg, st1_int, st1_str, strip1_enc, e_Api_Element_eq, c_Api_Element])
 refine WC.condF rfl hc15040 <| WC.seqR <| us 2 rfl <| WO.nil ?_
 rcases iteS h with ⟨hc15039, h⟩ | ⟨hc15039, h⟩
 refine WC.condT rfl hc15039 <| WC.seq <| WC.draw <| wh (.ptr i1 3) rfl rfl <| WH.step (v := .str a0.DN) rfl (nz rfl (stp_load rfl (H.get 1 rfl) rfl)) rfl rfl ?_
 obtain ⟨y14096, hy14096, h⟩ := bindS h
 refine WH.step (v := (.agg (c_Api_Element y14096))) rfl (nz rfl (stp_call (vs := [(.str a0.DN)]) rfl rfl (s57 _ hy14096 rfl _))) rfl rfl <| wh (.ptr i1 6) rfl rfl <| WH.step (v := .int .i64 a0.Scope) rfl (nz rfl (stp_load rfl (H.get 1 rfl) rfl)) rfl rfl ?_
 obtain ⟨y14097, hy14097, h⟩ := bindS h
 refine WH.step (v := (.agg (c_Api_Element y14097))) rfl (nz rfl (stp_call (vs := [(.int .u8 10), (.int .i64 a0.Scope)]) rfl rfl (s26 _ hy14097 rfl _))) rfl rfl ?_
 obtain ⟨y14098, hy14098, h⟩ := bindS h
 refine WH.step (v := (.agg (c_Api_Element y14098))) rfl (nz rfl (stp_call (vs := [(.int .u8 10), (.int .i64 0)]) rfl rfl (s26 _ hy14098 rfl _))) rfl rfl <| wh (.ptr i1 7) rfl rfl <| WH.step (v := .int .i64 a0.Size) rfl (nz rfl (stp_load rfl (H.get 1 rfl) rfl)) rfl rfl ?_
 obtain ⟨y14099, hy14099, h⟩ := bindS h
 refine WH.step (v := (.agg (c_Api_Element y14099))) rfl (nz rfl (stp_call (vs := [(.int .u8 2), (.int .i64 a0.Size)]) rfl rfl (s26 _ hy14099 rfl _))) rfl rfl ?_
 obtain ⟨y14100, hy14100, h⟩ := bindS h
 refine WH.step (v := (.agg (c_Api_Element y14100))) rfl (nz rfl (stp_call (vs := [(.int .u8 2), (.int .i64 0)]) rfl rfl (s26 _ hy14100 rfl _))) rfl rfl ?_
 obtain ⟨y14101, hy14101, h⟩ := bindS h
 refine WH.step (v := (.agg (c_Api_Element y14101))) rfl (nz rfl (stp_call (vs := [(.bool false)]) rfl rfl (s59 _ hy14101 rfl _))) rfl rfl <| wh (.ptr i1 8) rfl rfl <| WH.step (v := (.agg (c_Api_Filter a0.Filter))) rfl (nz rfl (stp_load rfl (H.get 1 rfl) rfl)) rfl rfl ?_
 obtain ⟨y14102, hy14102, h⟩ := bindS h
 refine WH.step (v := (.agg (c_Api_Element y14102))) rfl (nz rfl (stp_call (vs := [(.agg (c_Api_Filter a0.Filter))]) rfl rfl (s60 _ hy14102 (by simp only [st_agg, List.map_cons, List.map_nil, st1_int, st1_str, strip1_enc, e_Api_Filter_eq, tupled]) _))) rfl rfl <| wh (.ptr i1 13) rfl rfl <| WH.step (v := (encSl eS a0.Wants)) rfl (nz rfl (stp_load rfl (H.get 1 rfl) rfl)) rfl rfl <| WH.nil ?_
 obtain ⟨y14103, hy14103, h⟩ := bindS h
 refine cl (.agg (c_Api_Element y14103)) [(.int .u8 48), (encSl eS a0.Wants)] rfl rfl rfl (fo rfl (fe rfl rfl)) (sv (s61 _ hy14103)) <| WS rfl (nz rfl (stp_buildSlice (ys := [y14096, y14097, y14098, y14099, y14100, y14101, y14102, y14103]) (f := e_Api_Element) (parts := [(0, (.agg (c_Api_Element y14096))), (1, (.agg (c_Api_Element y14097))), (2, (.agg (c_Api_Element y14098))), (3, (.agg (c_Api_Element y14099))), (4, (.agg (c_Api_Element y14100))), (5, (.agg (c_Api_Element y14101))), (6, (.agg (c_Api_Element y14102))), (7, (.agg (c_Api_Element y14103)))]) rfl rfl rfl rfl rfl (by simp only [st_agg, List.map_cons, List.map_nil, st1_int, st1_str, strip1_enc, e_Api_Element_eq, tupled]) (fc ⟨rfl, rfl⟩ (fc ⟨rfl, rfl⟩ (fc ⟨rfl, rfl⟩ (fc ⟨rfl, rfl⟩ (fc ⟨rfl, rfl⟩ (fc ⟨rfl, rfl⟩ (fc ⟨rfl, rfl⟩ (fc ⟨rfl, rfl⟩ (fun p hp => nomatch hp))))))))) rfl)) ?_
 have hv14104 : IsSl e_Api_Element (some [y14096, y14097, y14098, y14099, y14100, y14101, y14102, y14103]) _ := ⟨.full, rfl⟩
 obtain ⟨y14105, hy14105, h⟩ := bindS h
 refine cl (.agg (c_Api_Element y14105)) [(.int .u8 99), (.lst (List.map e_Api_Element [y14096, y14097, y14098, y14099, y14100, y14101, y14102, y14103]) .full)] rfl rfl rfl (fo rfl (fz_tmp' hv14104.frz rfl)) (s25 _ hy14105 (by simp only [st_int, hv14104.strip, st_lst, encSl_some, eI, eB, eS, List.map_cons, List.map_nil, tupled])) <| wos 0 H hi2 rfl rfl rfl rfl rfl rfl rfl rfl rfl rfl ?_
 intro S H
 replace H : Hp [] [] _ [(i2, .cells (c_Api_Element y14105)), (i1, .cells (c_Api_Msg a0))] [] [] := H
 refine WO.nil <| KX.seq_n <| WC.ret <| KX.block_r <| KX.seq_r ?_
 have h := oi h; subst h
 refine KB.ret (vs := [(.agg (c_Api_Element y14105))]) (res_cell rfl (H.get 0 rfl) rfl res_nil) (fl_cons' rfl rfl) ?_
 exact (by simp only [st_tup, List.map_cons, List.map_nil, tupled, st_agg, st1_int, st1_str, strip1_enc, e_Api_Element_eq, c_Api_Element])
 refine WC.condF rfl hc15039 <| WC.seqR <| us 2 rfl <| WO.nil ?_
 rcases iteS h with ⟨hc15038, h⟩ | ⟨hc15038, h⟩
 refine WC.condT rfl hc15038 <| WC.seq <| WC.draw <| wh (.ptr i1 3) rfl rfl <| WH.step (v := .str a0.DN) rfl (nz rfl (stp_load rfl (H.get 1 rfl) rfl)) rfl rfl ?_
 obtain ⟨y14569, hy14569, h⟩ := bindS h
 refine WH.step (v := (.agg (c_Api_Element y14569))) rfl (nz rfl (stp_call (vs := [(.str a0.DN)]) rfl rfl (s57 _ hy14569 rfl _))) rfl rfl <| wh (.ptr i1 14) rfl rfl <| WH.step (v := (encSl e_Api_Mod a0.Mods)) rfl (nz rfl (stp_load rfl (H.get 1 rfl) rfl)) rfl rfl <| WH.nil ?_
 obtain ⟨y14570, hy14570, h⟩ := bindS h
 refine cl (.agg (c_Api_Element y14570)) [(encSl e_Api_Mod a0.Mods)] rfl rfl rfl (fe rfl rfl) (sv (s62 _ hy14570)) <| WS rfl (nz rfl (stp_buildSlice (ys := [y14569, y14570]) (f := e_Api_Element) (parts := [(0, (.agg (c_Api_Element y14569))), (1, (.agg (c_Api_Element y14570)))]) rfl rfl rfl rfl rfl (by simp only [st_agg, List.map_cons, List.map_nil, st1_int, st1_str, strip1_enc, e_Api_Element_eq, tupled]) (fc ⟨rfl, rfl⟩ (fc ⟨rfl, rfl⟩ (fun p hp => nomatch hp))) rfl)) ?_
 have hv14571 : IsSl e_Api_Element (some [y14569, y14570]) _ := ⟨.full, rfl⟩
 obtain ⟨y14572, hy14572, h⟩ := bindS h
 refine cl (.agg (c_Api_Element y14572)) [(.int .u8 102), (.lst (List.map e_Api_Element [y14569, y14570]) .full)] rfl rfl rfl (fo rfl (fz_tmp' hv14571.frz rfl)) (s25 _ hy14572 (by simp only [st_int, hv14571.strip, st_lst, encSl_some, eI, eB, eS, List.map_cons, List.map_nil, tupled])) <| wos 0 H hi2 rfl rfl rfl rfl rfl rfl rfl rfl rfl rfl ?_
 intro S H
 replace H : Hp [] [] _ [(i2, .cells (c_Api_Element y14572)), (i1, .cells (c_Api_Msg a0))] [] [] := H
 refine WO.nil <| KX.seq_n <| WC.ret <| KX.block_r <| KX.seq_r ?_
 have h := oi h; subst h
 refine KB.ret (vs := [(.agg (c_Api_Element y14572))]) (res_cell rfl (H.get 0 rfl) rfl res_nil) (fl_cons' rfl rfl) ?_
 exact (by simp only [st_tup, List.map_cons, List.map_nil, tupled, st_agg, st1_int, st1_str, strip1_enc, e_Api_Element_eq, c_Api_Element])
 refine WC.condF rfl hc15038 <| WC.seqR <| us 2 rfl <| WO.nil ?_
 rcases iteS h with ⟨hc15037, h⟩ | ⟨hc15037, h⟩
 refine WC.condT rfl hc15037 <| WC.seq <| WC.draw <| wh (.ptr i1 3) rfl rfl <| WH.step (v := .str a0.DN) rfl (nz rfl (stp_load rfl (H.get 1 rfl) rfl)) rfl rfl ?_
 obtain ⟨y14802, hy14802, h⟩ := bindS h
 refine WH.step (v := (.agg (c_Api_Element y14802))) rfl (nz rfl (stp_call (vs := [(.str a0.DN)]) rfl rfl (s57 _ hy14802 rfl _))) rfl rfl <| wh (.ptr i1 14) rfl rfl <| WH.step (v := (encSl e_Api_Mod a0.Mods)) rfl (nz rfl (stp_load rfl (H.get 1 rfl) rfl)) rfl rfl <| WH.nil ?_
 obtain ⟨y14803, hy14803, h⟩ := bindS h
 refine cl (.agg (c_Api_Element y14803)) [(encSl e_Api_Mod a0.Mods)] rfl rfl rfl (fe rfl rfl) (sv (s63 _ hy14803)) <| WS rfl (nz rfl (stp_buildSlice (ys := [y14802, y14803]) (f := e_Api_Element) (parts := [(0, (.agg (c_Api_Element y14802))), (1, (.agg (c_Api_Element y14803)))]) rfl rfl rfl rfl rfl (by simp only [st_agg, List.map_cons, List.map_nil, st1_int, st1_str, strip1_enc, e_Api_Element_eq, tupled]) (fc ⟨rfl, rfl⟩ (fc ⟨rfl, rfl⟩ (fun p hp => nomatch hp))) rfl)) ?_
 have hv14804 : IsSl e_Api_Element (some [y14802, y14803]) _ := ⟨.full, rfl⟩
 obtain ⟨y14805, hy14805, h⟩ := bindS h
 refine cl (.agg (c_Api_Element y14805)) [(.int .u8 104), (.lst (List.map e_Api_Element [y14802, y14803]) .full)] rfl rfl rfl (fo rfl (fz_tmp' hv14804.frz rfl)) (s25 _ hy14805 (by simp only [st_int, hv14804.strip, st_lst, encSl_some, eI, eB, eS, List.map_cons, List.map_nil, tupled])) <| wos 0 H hi2 rfl rfl rfl rfl rfl rfl rfl rfl rfl rfl ?_
 intro S H
 replace H : Hp [] [] _ [(i2, .cells (c_Api_Element y14805)), (i1, .cells (c_Api_Msg a0))] [] [] := H
 refine WO.nil <| KX.seq_n <| WC.ret <| KX.block_r <| KX.seq_r ?_
 have h := oi h; subst h
 refine KB.ret (vs := [(.agg (c_Api_Element y14805))]) (res_cell rfl (H.get 0 rfl) rfl res_nil) (fl_cons' rfl rfl) ?_
 exact (by simp only [st_tup, List.map_cons, List.map_nil, tupled, st_agg, st1_int, st1_str, strip1_enc, e_Api_Element_eq, c_Api_Element])
 refine WC.condF rfl hc15037 <| WC.seqR <| us 2 rfl <| WO.nil ?_
 rcases iteS h with ⟨hc15036, h⟩ | ⟨hc15036, h⟩
 refine WC.condT rfl hc15036 <| WC.seqR <| us 1 rfl <| wg H 1 rfl rfl rfl rfl ?_
 obtain ⟨y14918, hy14918, h⟩ := bindS h
 refine cl (.agg (c_Api_Element y14918)) [(.int .u8 74), (.str a0.DN)] rfl rfl rfl rfl (s58 _ hy14918 rfl) <| wos 0 H hi2 rfl rfl rfl rfl rfl rfl rfl rfl rfl rfl ?_
 intro S H
 replace H : Hp [] [] _ [(i2, .cells (c_Api_Element y14918)), (i1, .cells (c_Api_Msg a0))] [] [] := H
 refine WO.nil <| WC.ret <| KX.block_r <| KX.seq_r ?_
 have h := oi h; subst h
 refine KB.ret (vs := [(.agg (c_Api_Element y14918))]) (res_cell rfl (H.get 0 rfl) rfl res_nil) (fl_cons' rfl rfl) ?_
 exact (by simp only [st_tup, List.map_cons, List.map_nil, tupled, st_agg, st1_int, st1_str, strip1_enc, e_Api_Element_eq, c_Api_Element])
 refine WC.condF rfl hc15036 <| WC.seqR <| us 2 rfl <| WO.nil ?_
 rcases iteS h with ⟨hc15035, h⟩ | ⟨hc15035, h⟩
 refine WC.condT rfl hc15035 <| WC.seq <| WC.draw <| wh (.ptr i1 3) rfl rfl <| WH.step (v := .str a0.DN) rfl (nz rfl (stp_load rfl (H.get 1 rfl) rfl)) rfl rfl ?_
 obtain ⟨y14974, hy14974, h⟩ := bindS h
 refine WH.step (v := (.agg (c_Api_Element y14974))) rfl (nz rfl (stp_call (vs := [(.str a0.DN)]) rfl rfl (s57 _ hy14974 rfl _))) rfl rfl <| wh (.ptr i1 15) rfl rfl <| WH.step (v := .str a0.RDN) rfl (nz rfl (stp_load rfl (H.get 1 rfl) rfl)) rfl rfl ?_
 obtain ⟨y14975, hy14975, h⟩ := bindS h
 refine WH.step (v := (.agg (c_Api_Element y14975))) rfl (nz rfl (stp_call (vs := [(.str a0.RDN)]) rfl rfl (s57 _ hy14975 rfl _))) rfl rfl <| wh (.ptr i1 16) rfl rfl <| WH.step (v := .bool a0.DelOld) rfl (nz rfl (stp_load rfl (H.get 1 rfl) rfl)) rfl rfl <| WH.nil ?_
 obtain ⟨y14976, hy14976, h⟩ := bindS h
 refine cl (.agg (c_Api_Element y14976)) [(.bool a0.DelOld)] rfl rfl rfl rfl (s59 _ hy14976 rfl) <| WS rfl (nz rfl (stp_buildSlice (ys := [y14974, y14975, y14976]) (f := e_Api_Element) (parts := [(0, (.agg (c_Api_Element y14974))), (1, (.agg (c_Api_Element y14975))), (2, (.agg (c_Api_Element y14976)))]) rfl rfl rfl rfl rfl (by simp only [st_agg, List.map_cons, List.map_nil, st1_int, st1_str, strip1_enc, e_Api_Element_eq, tupled]) (fc ⟨rfl, rfl⟩ (fc ⟨rfl, rfl⟩ (fc ⟨rfl, rfl⟩ (fun p hp => nomatch hp)))) rfl)) ?_
 have hv14977 : IsSl e_Api_Element (some [y14974, y14975, y14976]) _ := ⟨.full, rfl⟩
 refine us 1 rfl <| WO.nil <| KX.seq_n <| WC.seq <| WC.seqR <| us 1 rfl <| wg H 1 rfl rfl rfl rfl <| WO.nil ?_
 obtain ⟨y14988, hy14988, hOy14988⟩ := bindS h
 refine WC.join (fun σ' S' e' => ∃ v14989, IsSl e_Api_Element y14988 v14989 ∧ Known ([(2, (.ptr i2 0)), (3, v14989)]) σ' ∧ Hp [] [] S' [(i2, .cells [(.int .u8 0), (.str []), .nils]), (i1, .cells (c_Api_Msg a0))] [] [] ∧ e' = false) ?_ ?_
 replace h := hy14988
 rcases iteS h with ⟨hc14994, h⟩ | ⟨hc14994, h⟩
 refine WC.condT rfl hc14994 <| WC.region <| us 2 rfl <| wg H 1 rfl rfl rfl rfl ?_
 obtain ⟨y14990, hy14990, h⟩ := bindS h
 refine cl (.agg (c_Api_Element y14990)) [(.int .u8 128), (.str a0.Sup)] rfl rfl rfl rfl (s58 _ hy14990 rfl) <| WS rfl (nz rfl (stp_buildSlice (ys := [y14990]) (f := e_Api_Element) (parts := [(0, (.agg (c_Api_Element y14990)))]) rfl rfl rfl rfl rfl (by simp only [st_agg, List.map_cons, List.map_nil, st1_int, st1_str, strip1_enc, e_Api_Element_eq, tupled]) (fc ⟨rfl, rfl⟩ (fun p hp => nomatch hp)) rfl)) ?_
 have hv14991 : IsSl e_Api_Element (some [y14990]) _ := ⟨.full, rfl⟩
 obtain ⟨z14992, hz14992, h⟩ := bindS h
 have H := H.addFull (List.map e_Api_Element [y14974, y14975, y14976]) 3 (sized_map (f := e_Api_Element) (fun a => (e_Api_Element_one a).2.1) _)
 refine WO.ex rfl (nzx (fz_tmp' hv14991.frz rfl) (stp_app (f := e_Api_Element) (ei := ty50) H 0 rfl rfl hv14977 rfl hv14991 rfl rfl rfl rfl (fun a => (e_Api_Element_one a).2.1) hz14992)) ?_
 rintro v14993 S ⟨hv14993, H⟩
 replace H : Hp [] [] _ [(i2, .cells [(.int .u8 0), (.str []), .nils]), (i1, .cells (c_Api_Msg a0))] [(v14993, 3)] [] := H
 refine w v14993 rfl rfl <| WO.nil <| KX.seq_n ?_
 have h := oi h; subst h
 exact ⟨v14993, hv14993, kn, (H.sub (.cons_cons _ (.cons_cons _ .slnil)) (.cons _ .slnil) .slnil), rfl⟩
 refine WC.condF rfl hc14994 <| WC.skip <| KX.seq_n ?_
 have h := oi h; subst h
 exact ⟨(.lst (List.map e_Api_Element [y14974, y14975, y14976]) .full), hv14977, kn, (hs H), rfl⟩
 rintro σ S e ⟨v14989, hv14989, hk, H, rfl⟩
 replace h := hOy14988
 refine KX.of_known hk <| KX.seq_n <| WC.seqR <| w v14989 rfl rfl ?_
 obtain ⟨y14995, hy14995, h⟩ := bindS h
 refine cl (.agg (c_Api_Element y14995)) [(.int .u8 108), v14989] rfl rfl rfl (fo rfl (fz_tmp' hv14989.frz rfl)) (s25 _ hy14995 (by simp only [st_int, hv14989.strip, List.map_cons, List.map_nil, tupled])) <| wos 0 H hi2 rfl rfl rfl rfl rfl rfl rfl rfl rfl rfl ?_
 intro S H
 replace H : Hp [] [] _ [(i2, .cells (c_Api_Element y14995)), (i1, .cells (c_Api_Msg a0))] [] [] := H
 refine WO.nil <| WC.ret <| KX.block_r <| KX.seq_r ?_
 have h := oi h; subst h
 refine KB.ret (vs := [(.agg (c_Api_Element y14995))]) (res_cell rfl (H.get 0 rfl) rfl res_nil) (fl_cons' rfl rfl) ?_
 exact (by simp only [st_tup, List.map_cons, List.map_nil, tupled, st_agg, st1_int, st1_str, strip1_enc, e_Api_Element_eq, c_Api_Element])
 refine WC.condF rfl hc15035 <| WC.seqR <| us 2 rfl <| WO.nil ?_
 rcases iteS h with ⟨hc15034, h⟩ | ⟨hc15034, h⟩
 refine WC.condT rfl hc15034 <| WC.seq <| WC.draw <| wh (.ptr i1 3) rfl rfl <| WH.step (v := .str a0.DN) rfl (nz rfl (stp_load rfl (H.get 1 rfl) rfl)) rfl rfl ?_
 obtain ⟨y15012, hy15012, h⟩ := bindS h
 refine WH.step (v := (.agg (c_Api_Element y15012))) rfl (nz rfl (stp_call (vs := [(.str a0.DN)]) rfl rfl (s57 _ hy15012 rfl _))) rfl rfl <| wh (.ptr i1 19) rfl rfl <| WH.step (v := .str a0.Attr) rfl (nz rfl (stp_load rfl (H.get 1 rfl) rfl)) rfl rfl <| wh (.ptr i1 20) rfl rfl <| WH.step (v := .str a0.Value) rfl (nz rfl (stp_load rfl (H.get 1 rfl) rfl)) rfl rfl <| WH.step rfl (nz rfl (stp_buildSlice (ys := [a0.Attr, a0.Value]) (f := eS) (parts := [(0, (.str a0.Attr)), (1, (.str a0.Value))]) rfl rfl rfl rfl rfl rfl (fc ⟨rfl, rfl⟩ (fc ⟨rfl, rfl⟩ (fun p hp => nomatch hp))) rfl)) rfl rfl ?_
 have hv15013 : IsSl eS (some [a0.Attr, a0.Value]) _ := ⟨.full, rfl⟩
 refine WH.nil ?_
 obtain ⟨y15014, hy15014, h⟩ := bindS h
 refine cl (.agg (c_Api_Element y15014)) [(.int .u8 48), (.lst (List.map eS [a0.Attr, a0.Value]) .full)] rfl rfl rfl (fo rfl (fz_tmp' hv15013.frz rfl)) (s61 _ hy15014 (by simp only [st_int, hv15013.strip, st_lst, encSl_some, eI, eB, eS, List.map_cons, List.map_nil, tupled])) <| WS rfl (nz rfl (stp_buildSlice (ys := [y15012, y15014]) (f := e_Api_Element) (parts := [(0, (.agg (c_Api_Element y15012))), (1, (.agg (c_Api_Element y15014)))]) rfl rfl rfl rfl rfl (by simp only [st_agg, List.map_cons, List.map_nil, st1_int, st1_str, strip1_enc, e_Api_Element_eq, tupled]) (fc ⟨rfl, rfl⟩ (fc ⟨rfl, rfl⟩ (fun p hp => nomatch hp))) rfl)) ?_
 have hv15015 : IsSl e_Api_Element (some [y15012, y15014]) _ := ⟨.full, rfl⟩
 obtain ⟨y15016, hy15016, h⟩ := bindS h
 refine cl (.agg (c_Api_Element y15016)) [(.int .u8 110), (.lst (List.map e_Api_Element [y15012, y15014]) .full)] rfl rfl rfl (fo rfl (fz_tmp' hv15015.frz rfl)) (s25 _ hy15016 (by simp only [st_int, hv15015.strip, st_lst, encSl_some, eI, eB, eS, List.map_cons, List.map_nil, tupled])) <| wos 0 H hi2 rfl rfl rfl rfl rfl rfl rfl rfl rfl rfl ?_
 intro S H
 replace H : Hp [] [] _ [(i2, .cells (c_Api_Element y15016)), (i1, .cells (c_Api_Msg a0))] [] [] := H
 refine WO.nil <| KX.seq_n <| WC.ret <| KX.block_r <| KX.seq_r ?_
 have h := oi h; subst h
 refine KB.ret (vs := [(.agg (c_Api_Element y15016))]) (res_cell rfl (H.get 0 rfl) rfl res_nil) (fl_cons' rfl rfl) ?_
 exact (by simp only [st_tup, List.map_cons, List.map_nil, tupled, st_agg, st1_int, st1_str, strip1_enc, e_Api_Element_eq, c_Api_Element])
 refine WC.condF rfl hc15034 <| WC.seqR <| us 2 rfl <| WO.nil ?_
 rcases iteS h with ⟨hc15033, h⟩ | ⟨hc15033, h⟩
 refine WC.condT rfl hc15033 <| WC.seq <| WC.draw <| wh (.ptr i1 3) rfl rfl <| WH.step (v := .str a0.DN) rfl (nz rfl (stp_load rfl (H.get 1 rfl) rfl)) rfl rfl ?_
 obtain ⟨y15022, hy15022, h⟩ := bindS h
 refine WH.step (v := (.agg (c_Api_Element y15022))) rfl (nz rfl (stp_call (vs := [(.str a0.DN)]) rfl rfl (s57 _ hy15022 rfl _))) rfl rfl <| wh (.ptr i1 14) rfl rfl <| WH.step (v := (encSl e_Api_Mod a0.Mods)) rfl (nz rfl (stp_load rfl (H.get 1 rfl) rfl)) rfl rfl <| WH.nil ?_
 obtain ⟨y15023, hy15023, h⟩ := bindS h
 refine cl (.agg (c_Api_Element y15023)) [(encSl e_Api_Mod a0.Mods)] rfl rfl rfl (fe rfl rfl) (sv (s63 _ hy15023)) <| WS rfl (nz rfl (stp_buildSlice (ys := [y15022, y15023]) (f := e_Api_Element) (parts := [(0, (.agg (c_Api_Element y15022))), (1, (.agg (c_Api_Element y15023)))]) rfl rfl rfl rfl rfl (by simp only [st_agg, List.map_cons, List.map_nil, st1_int, st1_str, strip1_enc, e_Api_Element_eq, tupled]) (fc ⟨rfl, rfl⟩ (fc ⟨rfl, rfl⟩ (fun p hp => nomatch hp))) rfl)) ?_
 have hv15024 : IsSl e_Api_Element (some [y15022, y15023]) _ := ⟨.full, rfl⟩
 obtain ⟨y15025, hy15025, h⟩ := bindS h
 refine cl (.agg (c_Api_Element y15025)) [(.int .u8 100), (.lst (List.map e_Api_Element [y15022, y15023]) .full)] rfl rfl rfl (fo rfl (fz_tmp' hv15024.frz rfl)) (s25 _ hy15025 (by simp only [st_int, hv15024.strip, st_lst, encSl_some, eI, eB, eS, List.map_cons, List.map_nil, tupled])) <| wos 0 H hi2 rfl rfl rfl rfl rfl rfl rfl rfl rfl rfl ?_
 intro S H
 replace H : Hp [] [] _ [(i2, .cells (c_Api_Element y15025)), (i1, .cells (c_Api_Msg a0))] [] [] := H
 refine WO.nil <| KX.seq_n <| WC.ret <| KX.block_r <| KX.seq_r ?_
 have h := oi h; subst h
 refine KB.ret (vs := [(.agg (c_Api_Element y15025))]) (res_cell rfl (H.get 0 rfl) rfl res_nil) (fl_cons' rfl rfl) ?_
 exact (by simp only [st_tup, List.map_cons, List.map_nil, tupled, st_agg, st1_int, st1_str, strip1_enc, e_Api_Element_eq, c_Api_Element])
 refine WC.condF rfl hc15033 <| WC.skip <| KX.block_n <| KX.seq_n <| WC.seqR <| w (.agg z13_) rfl (nz rfl (stp_buildArr (ti := ty80) (ei := ty5) rfl rfl rfl rfl rfl (fill_cons (cells' := [(.int .u8 0), (.int .u8 0), (.int .u8 0), (.int .u8 0), (.int .u8 0), (.int .u8 0), (.int .u8 0), (.int .u8 0), (.int .u8 0)]) rfl rfl rfl rfl (Nat.le_of_ble_eq_true rfl) rfl (fill_cons (cells' := z25_) rfl rfl rfl rfl (Nat.le_of_ble_eq_true rfl) rfl (fill_cons (cells' := z25_) rfl rfl rfl rfl (Nat.le_of_ble_eq_true rfl) rfl (fill_cons (cells' := z23_) rfl rfl rfl rfl (Nat.le_of_ble_eq_true rfl) rfl (fill_cons (cells' := z21_) rfl rfl rfl rfl (Nat.le_of_ble_eq_true rfl) rfl (fill_cons (cells' := z19_) rfl rfl rfl rfl (Nat.le_of_ble_eq_true rfl) rfl (fill_cons (cells' := z17_) rfl rfl rfl rfl (Nat.le_of_ble_eq_true rfl) rfl (fill_cons (cells' := z15_) rfl rfl rfl rfl (Nat.le_of_ble_eq_true rfl) rfl (fill_cons (cells' := z13_) rfl rfl rfl rfl (Nat.le_of_ble_eq_true rfl) rfl rfl))))))))))) <| WO.alloc' (ti := ty80) rfl rfl rfl rfl H ?_
 intro i15026 S hi15026 H
 refine wos 0 H hi15026 rfl rfl rfl rfl rfl rfl rfl rfl rfl rfl ?_
 intro S H
 refine WO.nil <| WC.seq <| WC.draw <| wh (.ptr i1 2) rfl rfl <| WH.step (v := .int .i64 a0.Of) rfl (nz rfl (stp_load rfl (H.get 2 rfl) rfl)) rfl rfl ?_
 obtain ⟨y15027, hy15027, h⟩ := bindS h
 refine WH.step (v := (.ptr i15026 (0 + Int.toNat a0.Of * 1))) rfl (nz rfl (stp_idxPtr (xs := [0, 97, 0, 101, 103, 105, 107, 109, 111]) rfl rfl rfl rfl rfl hy15027)) rfl rfl <| WH.step (v := .int .u8 y15027) rfl (nz rfl (stp_loadA (f := (eI .u8)) (xs := [0, 97, 0, 101, 103, 105, 107, 109, 111]) rfl (H.get 0 rfl) rfl rfl hy15027)) rfl rfl <| wh (.ptr i1 21) rfl rfl <| WH.step (v := .int .i64 a0.Code) rfl (nz rfl (stp_load rfl (H.get 2 rfl) rfl)) rfl rfl ?_
 obtain ⟨y15028, hy15028, h⟩ := bindS h
 refine WH.step (v := (.agg (c_Api_Element y15028))) rfl (nz rfl (stp_call (vs := [(.int .u8 10), (.int .i64 a0.Code)]) rfl rfl (s26 _ hy15028 rfl _))) rfl rfl <| wh (.ptr i1 22) rfl rfl <| WH.step (v := .str a0.Matched) rfl (nz rfl (stp_load rfl (H.get 2 rfl) rfl)) rfl rfl ?_
 obtain ⟨y15029, hy15029, h⟩ := bindS h
 refine WH.step (v := (.agg (c_Api_Element y15029))) rfl (nz rfl (stp_call (vs := [(.str a0.Matched)]) rfl rfl (s57 _ hy15029 rfl _))) rfl rfl ?_
 obtain ⟨y15030, hy15030, h⟩ := bindS h
 refine WH.step (v := (.agg (c_Api_Element y15030))) rfl (nz rfl (stp_call (vs := [(.str [])]) rfl rfl (s57 _ hy15030 rfl _))) rfl rfl <| WH.step rfl (nz rfl (stp_buildSlice (ys := [y15028, y15029, y15030]) (f := e_Api_Element) (parts := [(0, (.agg (c_Api_Element y15028))), (1, (.agg (c_Api_Element y15029))), (2, (.agg (c_Api_Element y15030)))]) rfl rfl rfl rfl rfl (by simp only [st_agg, List.map_cons, List.map_nil, st1_int, st1_str, strip1_enc, e_Api_Element_eq, tupled]) (fc ⟨rfl, rfl⟩ (fc ⟨rfl, rfl⟩ (fc ⟨rfl, rfl⟩ (fun p hp => nomatch hp)))) rfl)) rfl rfl ?_
 have hv15031 : IsSl e_Api_Element (some [y15028, y15029, y15030]) _ := ⟨.full, rfl⟩
 refine WH.nil ?_
 obtain ⟨y15032, hy15032, h⟩ := bindS h
 refine cl (.agg (c_Api_Element y15032)) [(.int .u8 y15027), (.lst (List.map e_Api_Element [y15028, y15029, y15030]) .full)] rfl rfl rfl (fz_tmp' rfl (fz_tmp' hv15031.frz rfl)) (s25 _ hy15032 (by simp only [st_int, hv15031.strip, st_lst, encSl_some, eI, eB, eS, List.map_cons, List.map_nil, tupled])) <| wos 1 H hi2 rfl rfl rfl rfl rfl rfl rfl rfl rfl rfl ?_
 intro S H
 replace H : Hp [] [] _ [(i15026, .cells z13_), (i2, .cells (c_Api_Element y15032)), (i1, .cells (c_Api_Msg a0))] [] [] := H
 refine WO.nil <| KX.seq_n <| WC.ret ?_
 have h := oi h; subst h
 refine KB.ret (vs := [(.agg (c_Api_Element y15032))]) (res_cell rfl (H.get 1 rfl) rfl res_nil) (fl_cons' rfl rfl) ?_
 exact (by simp only [st_tup, List.map_cons, List.map_nil, tupled, st_agg, st1_int, st1_str, strip1_enc, e_Api_Element_eq, c_Api_Element])
def F64_L0 (k : Nat) : Nat → Str → Int → Option (Str × Int)
 | 0, _, _ => none
 | n + 1, x21, x22 =>
  if decide (x22 > 0) then
  Option.bind (Str.app? (Str.of (some [cv .u8 x22])) x21) fun z27 =>
  Option.bind (quo? .i64 x22 256) fun z28 =>
  F64_L0 k n z27 z28
  else
  some (x21, x22)
def F64 (k : Nat) (a0 : Int) : Option Str :=
 if decide (a0 < 128) then
 some (Str.of (some [cv .u8 a0]))
 else
 Option.bind (F64_L0 k k [] a0) fun y30 =>
 Option.bind (Str.app? (Str.of (some [cv .u8 (ad .i64 128 (Str.len y30.1))])) y30.1) fun z32 =>
 some z32
theorem l64_L0 {k : Nat} {S0 : List SObj} {R : List Nat} {K : KX}  {o : (Str × Int)}
  (hbrk : EK [(3, (.str o.1))] S0 R [] [] [] (K (.exit 0))) :
  ∀ {n : Nat} {x21 : Str} {x22 : Int}, F64_L0 k n x21 x22 = some o → ∀ {σ : Nat → PV} {S : List SObj}, Known [(3, (.str x21)), (4, (.int .i64 x22))] σ → Hp S0 R S [] [] [] → WC env ⟨30, S0.length⟩ (.loop pc64L0) σ S false K := by
 intro n
 induction n with
 | zero => intro _ _ h; cases h
 | succ n ih =>
  intro x21 x22 h σ S  hk H
  rw [F64_L0] at h
  refine WC.loop <| WC.of_known hk <| WC.seq <| WC.seqR <| us 2 rfl <| WO.nil ?_
  rcases iteS h with ⟨hc29, h⟩ | ⟨hc29, h⟩
  refine WC.condT rfl hc29 <| WC.skip <| KX.seq_n <| WC.seq <| WC.block <| WC.region <| us 2 rfl <| WS rfl (nz rfl (stp_buildSlice (ys := [cv .u8 x22]) (f := (eI .u8)) (parts := [(0, (.int .u8 (cv .u8 x22)))]) rfl rfl rfl rfl rfl rfl (fc ⟨rfl, rfl⟩ (fun p hp => nomatch hp)) rfl)) ?_
  have hv26 : IsSl (eI .u8) (some [cv .u8 x22]) _ := ⟨.full, rfl⟩
  refine w (.str (Str.of (some [cv .u8 x22]))) rfl (nz (fz_tmp' hv26.frz rfl) (stp_text rfl hv26 rfl rfl rfl)) <| us 1 rfl ?_
  obtain ⟨z27, hz27, h⟩ := bindS h
  refine w (.str z27) rfl (nz rfl (stp_strApp rfl rfl hz27)) <| us 1 rfl <| WO.nil <| KX.block_n <| KX.seq_n <| WC.region <| us 1 rfl ?_
  obtain ⟨z28, hz28, h⟩ := bindS h
  refine w (.int .i64 z28) rfl (nz rfl (stp_quo rfl rfl hz28)) <| us 1 rfl <| WO.nil <| KX.seq_n ?_
  exact ih h  kn (hs H)
  refine WC.condF rfl hc29 <| WC.exit <| KX.seq_x <| KX.seq_x ?_
  have h := oi h; subst h
  exact hbrk  kn (hs H)
theorem s64 : ∀ k : Nat, ∀ {a0 : Int} {r : Str}, F64 k a0 = some r → Q 64 [(.int .i64 a0)] (.str r) := by
 intro k a0 r h
 unfold F64 at h
 refine Qe.go (pf := fn64) rfl rfl (Nat.le_of_ble_eq_true rfl) rfl rfl rfl fun H => ?_
 refine WC.seqR <| us 1 rfl <| WO.nil <| WC.seq <| WC.seqR <| us 2 rfl <| WO.nil ?_
 rcases iteS h with ⟨hc33, h⟩ | ⟨hc33, h⟩
 refine WC.condT rfl hc33 <| WC.seqR <| us 2 rfl <| WS rfl (nz rfl (stp_buildSlice (ys := [cv .u8 a0]) (f := (eI .u8)) (parts := [(0, (.int .u8 (cv .u8 a0)))]) rfl rfl rfl rfl rfl rfl (fc ⟨rfl, rfl⟩ (fun p hp => nomatch hp)) rfl)) ?_
 have hv3 : IsSl (eI .u8) (some [cv .u8 a0]) _ := ⟨.full, rfl⟩
 refine w (.str (Str.of (some [cv .u8 a0]))) rfl (nz (fz_tmp' hv3.frz rfl) (stp_text rfl hv3 rfl rfl rfl)) <| us 1 rfl <| WO.nil <| WC.ret <| KX.seq_r ?_
 have h := oi h; subst h
 exact kr (.str (Str.of (some [cv .u8 a0]))) rfl rfl rfl
 refine WC.condF rfl hc33 <| WC.skip <| KX.seq_n <| WC.seqR <| us 1 rfl <| WO.nil <| WC.seq <| WC.seqR <| us 2 rfl <| WO.nil ?_
 obtain ⟨y30, hy30, hOy30⟩ := bindS h
 refine WC.block ?_
 refine l64_L0 ?_ hy30  kn (hs H)
 intro σ S  hk H; replace h := hOy30
 refine KX.of_known hk <| KX.block_x <| KX.seq_n <| WC.seqR <| us 4 rfl <| WS rfl (nz rfl (stp_buildSlice (ys := [cv .u8 (ad .i64 128 (Str.len y30.1))]) (f := (eI .u8)) (parts := [(0, (.int .u8 (cv .u8 (ad .i64 128 (Str.len y30.1)))))]) rfl rfl rfl rfl rfl rfl (fc ⟨rfl, rfl⟩ (fun p hp => nomatch hp)) rfl)) ?_
 have hv31 : IsSl (eI .u8) (some [cv .u8 (ad .i64 128 (Str.len y30.1))]) _ := ⟨.full, rfl⟩
 refine w (.str (Str.of (some [cv .u8 (ad .i64 128 (Str.len y30.1))]))) rfl (nz (fz_tmp' hv31.frz rfl) (stp_text rfl hv31 rfl rfl rfl)) <| us 1 rfl ?_
 obtain ⟨z32, hz32, h⟩ := bindS h
 refine w (.str z32) rfl (nz rfl (stp_strApp rfl rfl hz32)) <| us 1 rfl <| WO.nil <| WC.ret ?_
 have h := oi h; subst h
 exact kr (.str z32) rfl rfl rfl
def F28_L0 (rc0 : Api_Element → Option (Str × Bool)) (k : Nat) (a33 : Api_Element) : Nat → Str → Int → Option (Out (Str × Bool) (Str × Int))
 | 0, _, _ => none
 | n + 1, x31, x32 =>
  if decide (x32 < (Sl.len a33.Kids)) then
  Option.bind (Sl.at? a33.Kids x32) fun y40 =>
  Option.bind (rc0 y40) fun y41 =>
  if !y41.2 then
  some (Out.ret ([], false))
  else
  Option.bind (Str.app? x31 y41.1) fun z43 =>
  F28_L0 rc0 k a33 n z43 (ad .i64 x32 1)
  else
  some (Out.brk (x31, x32))
def F28 : Nat → Api_Element → Option (Str × Bool)
 | 0, _ => none
 | k + 1, a0 =>
  Option.bind (F28_L0 (F28 k) k a0 k a0.Body 0) fun y46 =>
  match y46 with
  | .ret y46r => some (y46r.1, y46r.2)
  | .brk y46b =>
  if decide ((Str.len y46b.1) > 4000) then
  some ([], false)
  else
  Option.bind (F64 k (Str.len y46b.1)) fun y49 =>
  Option.bind (Str.app? (Str.of (some [a0.Tag])) y49) fun z50 =>
  Option.bind (Str.app? z50 y46b.1) fun z51 =>
  some (z51, true)
theorem l28_L0 {rc0 : Api_Element → Option (Str × Bool)} (hrc0 : ∀ {a0 : Api_Element} {r : Str × Bool}, rc0 a0 = some r → Q 28 [(.agg (c_Api_Element a0))] (.tup [(.str r.1), (.bool r.2)])) {k : Nat} {a33 : Api_Element} {S0 : List SObj} {R : List Nat} {K : KX} {i1 : Nat} (hi1 : S0.length ≤ i1)  {o : Out (Str × Bool) (Str × Int)}
  (hret : ∀ r : Str × Bool, o = .ret r → EK [(2, (.str r.1)), (3, (.bool r.2))] S0 R [] [] [] (K .ret))
  (hbrk : ∀ y : Str × Int, o = .brk y → EK [(1, (.ptr i1 0)), (4, (.str y.1))] S0 R [(i1, .cells (c_Api_Element a33))] [] [] (K (.exit 0))) :
  ∀ {n : Nat} {x31 : Str} {x32 : Int}, F28_L0 rc0 k a33 n x31 x32 = some o → ∀ {σ : Nat → PV} {S : List SObj}, Known [(1, (.ptr i1 0)), (4, (.str x31)), (5, (.int .i64 x32))] σ → Hp S0 R S [(i1, .cells (c_Api_Element a33))] [] [] → WC env ⟨44, S0.length⟩ (.loop pc28L0) σ S false K := by
 intro n
 induction n with
 | zero => intro _ _ h; cases h
 | succ n ih =>
  intro x31 x32 h σ S  hk H
  rw [F28_L0] at h
  refine WC.loop <| WC.of_known hk <| WC.seq <| WC.seqR <| us 2 rfl <| wg H 0 rfl rfl rfl rfl <| wl rfl rfl rfl <| us 1 rfl <| WO.nil ?_
  rcases iteS h with ⟨hc45, h⟩ | ⟨hc45, h⟩
  refine WC.condT rfl hc45 <| WC.skip <| KX.seq_n <| WC.seq <| WC.block <| WC.seqR <| us 1 rfl <| wg H 0 rfl rfl rfl rfl <| us 1 rfl ?_
  obtain ⟨y40, hy40, h⟩ := bindS h
  refine w (.iptr (c_Api_Element y40) 0) rfl (nz rfl (stp_idxAddr rfl (isSl_enc _ _) rfl rfl rfl hy40 (e_Api_Element_cells _) rfl)) <| us 1 rfl ?_
  obtain ⟨y41, hy41, h⟩ := bindS h
  refine cl (.tup [(.str y41.1), (.bool y41.2)]) [(.agg (c_Api_Element y40))] rfl rfl rfl rfl (sv (hrc0 hy41)) <| us 5 rfl <| WO.nil <| WC.seq <| WC.seqR <| us 2 rfl <| WO.nil ?_
  rcases iteS h with ⟨hc44, h⟩ | ⟨hc44, h⟩
  refine WC.condT rfl hc44 <| WC.seqR <| us 2 rfl <| WO.nil <| WC.ret <| KX.seq_r <| KX.block_r <| KX.seq_r <| KX.seq_r ?_
  have h := oi h; subst h
  exact hret _ rfl kn (H.sub (.cons _ .slnil) .slnil .slnil)
  refine WC.condF rfl hc44 <| WC.skip <| KX.seq_n <| WC.region <| us 2 rfl ?_
  obtain ⟨z43, hz43, h⟩ := bindS h
  refine w (.str z43) rfl (nz rfl (stp_strApp rfl rfl hz43)) <| us 1 rfl <| WO.nil <| KX.block_n <| KX.seq_n <| WC.region <| us 3 rfl <| WO.nil <| KX.seq_n ?_
  exact ih h  kn (hs H)
  refine WC.condF rfl hc45 <| WC.exit <| KX.seq_x <| KX.seq_x ?_
  have h := oi h; subst h
  exact hbrk _ rfl  kn (hs H)
theorem s28 : ∀ k : Nat, ∀ {a0 : Api_Element} {r : Str × Bool}, F28 k a0 = some r → Q 28 [(.agg (c_Api_Element a0))] (.tup [(.str r.1), (.bool r.2)]) := by
 intro k
 induction k with
 | zero => intro _ r h; cases h
 | succ k ih =>
  intro a0 r h
  rw [F28] at h
  refine Qe.go (pf := fn28) rfl rfl (Nat.le_of_ble_eq_true rfl) (by simp [PV.clean, cleanL, clean_encSl clean_Api_Element]) rfl rfl fun H => ?_
  refine WC.seqR <| WO.box' rfl rfl rfl rfl rfl H ?_
  intro i1 S hi1 H
  refine us 2 rfl <| WO.nil <| WC.seqR <| us 1 rfl <| wg H 0 rfl rfl rfl rfl <| us 1 rfl <| WO.nil <| WC.seq <| WC.seqR <| us 1 rfl <| WO.nil ?_
  obtain ⟨y46, hy46, hOy46⟩ := bindS h
  refine WC.block ?_
  refine l28_L0 ih hi1 ?_ ?_ hy46  kn (hs H)
  intro y46r he σ S  hk H; subst he; replace h := hOy46; dsimp only at h
  refine KX.of_known hk <| KX.block_r <| KX.seq_r ?_
  have h := oi h; subst h
  refine KB.ret (vs := [(.str y46r.1), (.bool y46r.2)]) (res_tmp rfl (res_tmp rfl res_nil)) (fl_cons' rfl (fl_cons' rfl rfl)) ?_
  exact rfl
  intro y46b he σ S  hk H; subst he; replace h := hOy46; dsimp only at h
  refine KX.of_known hk <| KX.block_x <| KX.seq_n <| WC.seq <| WC.seqR <| us 3 rfl <| WO.nil ?_
  rcases iteS h with ⟨hc52, h⟩ | ⟨hc52, h⟩
  refine WC.condT rfl hc52 <| WC.seqR <| us 2 rfl <| WO.nil <| WC.ret <| KX.seq_r ?_
  have h := oi h; subst h
  refine KB.ret (vs := [(.str []), (.bool false)]) (res_tmp rfl (res_tmp rfl res_nil)) (fl_cons' rfl (fl_cons' rfl rfl)) ?_
  exact rfl
  refine WC.condF rfl hc52 <| WC.skip <| KX.seq_n <| WC.seq <| WC.draw <| wh (.ptr i1 0) rfl rfl <| WH.step (v := .int .u8 a0.Tag) rfl (nz rfl (stp_load rfl (H.get 0 rfl) rfl)) rfl rfl <| WH.step rfl (nz rfl (stp_buildSlice (ys := [a0.Tag]) (f := (eI .u8)) (parts := [(0, (.int .u8 a0.Tag))]) rfl rfl rfl rfl rfl rfl (fc ⟨rfl, rfl⟩ (fun p hp => nomatch hp)) rfl)) rfl rfl ?_
  have hv48 : IsSl (eI .u8) (some [a0.Tag]) _ := ⟨.full, rfl⟩
  refine WH.step (v := (.str (Str.of (some [a0.Tag])))) rfl (nz (fz_tmp' hv48.frz rfl) (stp_text rfl hv48 rfl rfl rfl)) rfl rfl <| wh (.str y46b.1) rfl rfl <| wh (.int .i64 (Str.len y46b.1)) rfl rfl ?_
  obtain ⟨y49, hy49, h⟩ := bindS h
  refine WH.step (v := .str y49) rfl (nz rfl (stp_call (vs := [(.int .i64 (Str.len y46b.1))]) rfl rfl (s64 _ hy49 rfl _))) rfl rfl ?_
  obtain ⟨z50, hz50, h⟩ := bindS h
  refine WH.step (v := .str z50) rfl (nz rfl (stp_strApp rfl rfl hz50)) rfl rfl <| wh (.str y46b.1) rfl rfl <| WH.nil ?_
  obtain ⟨z51, hz51, h⟩ := bindS h
  refine w (.str z51) rfl (nz rfl (stp_strApp rfl rfl hz51)) <| us 2 rfl <| WO.nil <| KX.seq_n <| WC.ret ?_
  have h := oi h; subst h
  refine KB.ret (vs := [(.str z51), (.bool true)]) (res_tmp rfl (res_tmp rfl res_nil)) (fl_cons' rfl (fl_cons' rfl rfl)) ?_
  exact rfl
def F29_L0 (rc0 : Api_Element → Option Int) (k : Nat) (a20 : Api_Element) : Nat → Int → Int → Option (Int × Int)
 | 0, _, _ => none
 | n + 1, x18, x19 =>
  if decide (x19 < (Sl.len a20.Kids)) then
  Option.bind (Sl.at? a20.Kids x19) fun y24 =>
  Option.bind (rc0 y24) fun y25 =>
  F29_L0 rc0 k a20 n (imax x18 y25) (ad .i64 x19 1)
  else
  some (x18, x19)
def F29 : Nat → Api_Element → Option Int
 | 0, _ => none
 | k + 1, a0 =>
  Option.bind (F29_L0 (F29 k) k a0 k 0 0) fun y27 =>
  some (ad .i64 y27.1 1)
theorem l29_L0 {rc0 : Api_Element → Option Int} (hrc0 : ∀ {a0 : Api_Element} {r : Int}, rc0 a0 = some r → Q 29 [(.agg (c_Api_Element a0))] (.int .i64 r)) {k : Nat} {a20 : Api_Element} {S0 : List SObj} {R : List Nat} {K : KX} {i1 : Nat} (hi1 : S0.length ≤ i1)  {o : (Int × Int)}
  (hbrk : EK [(3, (.int .i64 o.1))] S0 R [(i1, .cells (c_Api_Element a20))] [] [] (K (.exit 0))) :
  ∀ {n : Nat} {x18 : Int} {x19 : Int}, F29_L0 rc0 k a20 n x18 x19 = some o → ∀ {σ : Nat → PV} {S : List SObj}, Known [(1, (.ptr i1 0)), (3, (.int .i64 x18)), (4, (.int .i64 x19))] σ → Hp S0 R S [(i1, .cells (c_Api_Element a20))] [] [] → WC env ⟨22, S0.length⟩ (.loop pc29L0) σ S false K := by
 intro n
 induction n with
 | zero => intro _ _ h; cases h
 | succ n ih =>
  intro x18 x19 h σ S  hk H
  rw [F29_L0] at h
  refine WC.loop <| WC.of_known hk <| WC.seq <| WC.seqR <| us 2 rfl <| wg H 0 rfl rfl rfl rfl <| wl rfl rfl rfl <| us 1 rfl <| WO.nil ?_
  rcases iteS h with ⟨hc26, h⟩ | ⟨hc26, h⟩
  refine WC.condT rfl hc26 <| WC.skip <| KX.seq_n <| WC.seq <| WC.block <| WC.region <| us 2 rfl <| wg H 0 rfl rfl rfl rfl <| us 1 rfl ?_
  obtain ⟨y24, hy24, h⟩ := bindS h
  refine w (.iptr (c_Api_Element y24) 0) rfl (nz rfl (stp_idxAddr rfl (isSl_enc _ _) rfl rfl rfl hy24 (e_Api_Element_cells _) rfl)) <| us 1 rfl ?_
  obtain ⟨y25, hy25, h⟩ := bindS h
  refine cl (.int .i64 y25) [(.agg (c_Api_Element y24))] rfl rfl rfl rfl (sv (hrc0 hy25)) <| us 2 rfl <| WO.nil <| KX.block_n <| KX.seq_n <| WC.region <| us 3 rfl <| WO.nil <| KX.seq_n ?_
  exact ih h  kn (hs H)
  refine WC.condF rfl hc26 <| WC.exit <| KX.seq_x <| KX.seq_x ?_
  have h := oi h; subst h
  exact hbrk  kn (hs H)
theorem s29 : ∀ k : Nat, ∀ {a0 : Api_Element} {r : Int}, F29 k a0 = some r → Q 29 [(.agg (c_Api_Element a0))] (.int .i64 r) := by
 intro k
 induction k with
 | zero => intro _ r h; cases h
 | succ k ih =>
  intro a0 r h
  rw [F29] at h
  refine Qe.go (pf := fn29) rfl rfl (Nat.le_of_ble_eq_true rfl) (by simp [PV.clean, cleanL, clean_encSl clean_Api_Element]) rfl rfl fun H => ?_
  refine WC.seqR <| WO.box' rfl rfl rfl rfl rfl H ?_
  intro i1 S hi1 H
  refine us 1 rfl <| WO.nil <| WC.seqR <| us 1 rfl <| WO.nil <| WC.seq <| WC.seqR <| us 1 rfl <| WO.nil ?_
  obtain ⟨y27, hy27, hOy27⟩ := bindS h
  refine WC.block ?_
  refine l29_L0 ih hi1 ?_ hy27  kn (hs H)
  intro σ S  hk H; replace h := hOy27
  refine KX.of_known hk <| KX.block_x <| KX.seq_n <| WC.seqR <| us 3 rfl <| WO.nil <| WC.ret ?_
  have h := oi h; subst h
  exact kr (.int .i64 (ad .i64 y27.1 1)) rfl rfl rfl
def F10 (k : Nat) (a0 : Api_Msg) : Option (Str × Int) :=
 Option.bind (F12 k a0) fun y2 =>
 if !y2 then
 some ([], 14)
 else
 Option.bind (F26 k 2 a0.ID) fun y4 =>
 Option.bind (F27 k a0) fun y5 =>
 Option.bind (F25 k 48 (some [y4, y5])) fun y7 =>
 Option.bind (F28 k y7) fun y10 =>
 if (!y10.2) || (decide ((Str.len y10.1) > 4000)) then
 some ([], 13)
 else
 Option.bind (F29 k y7) fun y25 =>
 if decide (y25 > 20) then
 some ([], 12)
 else
 some (y10.1, 0)
theorem s10 : ∀ k : Nat, ∀ {a0 : Api_Msg} {r : Str × Int}, F10 k a0 = some r → Q 10 [(.agg (c_Api_Msg a0))] (.tup [(.str r.1), (.int .i64 r.2)]) := by
 intro k a0 r h
 unfold F10 at h
 refine Qe.go (pf := fn10) rfl rfl (Nat.le_of_ble_eq_true rfl) (by simp [PV.clean, cleanL, clean_encSl clean_Api_Filter, clean_encSl clean_Api_Mod, clean_encSl clean_eS]) rfl rfl fun H => ?_
 refine WC.seqR <| WO.box' rfl rfl rfl rfl rfl H ?_
 intro i1 S hi1 H
 refine us 2 rfl <| WO.nil <| WC.seq <| WC.seqR <| wg H 0 rfl rfl rfl rfl ?_
 obtain ⟨y2, hy2, h⟩ := bindS h
 refine cl (.bool y2) [(.agg (c_Api_Msg a0))] rfl rfl rfl rfl (sv (s12 _ hy2)) <| us 1 rfl <| WO.nil ?_
 rcases iteS h with ⟨hc29, h⟩ | ⟨hc29, h⟩
 refine WC.condT rfl hc29 <| WC.seqR <| us 2 rfl <| WO.nil <| WC.ret <| KX.seq_r ?_
 have h := oi h; subst h
 refine KB.ret (vs := [(.str []), (.int .i64 14)]) (res_tmp rfl (res_tmp rfl res_nil)) (fl_cons' rfl (fl_cons' rfl rfl)) ?_
 exact rfl
 refine WC.condF rfl hc29 <| WC.skip <| KX.seq_n <| WC.seq <| WC.drawC <| wk (.ptr i1 0) rfl rfl rfl rfl <| wkl H 0 rfl rfl rfl rfl ?_
 obtain ⟨y4, hy4, h⟩ := bindS h
 refine WK.step (v := (.agg (c_Api_Element y4))) rfl (pz rfl rfl (show List.map PV.strip [(.int .u8 2), (.int .i64 a0.ID)] = [(.int .u8 2), (.int .i64 a0.ID)] from rfl) rfl (s26 _ hy4 (show List.map PV.strip [(.int .u8 2), (.int .i64 a0.ID)] = [(.int .u8 2), (.int .i64 a0.ID)] from rfl) []) (by simp [PV.clean, cleanL, clean_encSl clean_Api_Element]) (by simp only [st_agg, List.map_cons, List.map_nil, st1_int, st1_str, strip1_enc, e_Api_Element_eq, tupled])) rfl rfl rfl rfl <| wkl H 0 rfl rfl rfl rfl ?_
 obtain ⟨y5, hy5, h⟩ := bindS h
 refine WK.step (v := (.agg (c_Api_Element y5))) rfl (pz rfl rfl (show List.map PV.strip [(.agg (c_Api_Msg a0))] = [(.agg (c_Api_Msg a0))] from (by simp only [st_agg, List.map_cons, List.map_nil, st1_int, st1_str, strip1_enc, st1_bool, tupled, e_Api_Msg])) (by simp [PV.clean, cleanL, clean_encSl clean_Api_Filter, clean_encSl clean_Api_Mod, clean_encSl clean_eS]) (s27 _ hy5 (show List.map PV.strip [(.agg (c_Api_Msg a0))] = [(.agg (c_Api_Msg a0))] from (by simp only [st_lst, st1_lst, st_agg, List.map_cons, List.map_nil, st1_int, st1_str, strip1_enc, st1_bool, tupled, e_Api_Msg])) []) (by simp [PV.clean, cleanL, clean_encSl clean_Api_Element]) (by simp only [st_agg, List.map_cons, List.map_nil, st1_int, st1_str, strip1_enc, e_Api_Element_eq, tupled])) rfl rfl rfl rfl <| WK.step rfl (nz rfl (stp_buildSlice (ys := [y4, y5]) (f := e_Api_Element) (parts := [(0, (.agg (c_Api_Element y4))), (1, (.agg (c_Api_Element y5)))]) rfl rfl rfl rfl rfl (by simp only [st_agg, List.map_cons, List.map_nil, st1_int, st1_str, strip1_enc, e_Api_Element_eq, tupled]) (fc ⟨rfl, rfl⟩ (fc ⟨rfl, rfl⟩ (fun p hp => nomatch hp))) rfl)) rfl rfl rfl rfl ?_
 have hv6 : IsSl e_Api_Element (some [y4, y5]) _ := ⟨.full, rfl⟩
 obtain ⟨y7, hy7, h⟩ := bindS h
 refine WK.step (v := (.agg (c_Api_Element y7))) rfl (pz (fo rfl (fz_tmp' hv6.frz rfl)) rfl (show List.map PV.strip [(.int .u8 48), (.lst (List.map e_Api_Element [y4, y5]) .full)] = [(.int .u8 48), (encSl e_Api_Element (some [y4, y5]))] from (by simp only [st_int, hv6.strip, st_lst, encSl_some, eI, eB, eS, List.map_cons, List.map_nil, tupled])) (by simp [PV.clean, cleanL, clean_encSl clean_Api_Element]) (s25 _ hy7 (show List.map PV.strip [(.int .u8 48), (encSl e_Api_Element (some [y4, y5]))] = [(.int .u8 48), (encSl e_Api_Element (some [y4, y5]))] from (by simp only [st_lst, st1_lst, st_int, strip_enc, encSl_some, eI, eB, eS, List.map_cons, List.map_nil, tupled])) []) (by simp [PV.clean, cleanL, clean_encSl clean_Api_Element]) (by simp only [st_agg, List.map_cons, List.map_nil, st1_int, st1_str, strip1_enc, e_Api_Element_eq, tupled])) rfl rfl rfl (ind_pure (fc rfl (fc hv6.notRow (fun p hp => nomatch hp)))) ?_
 have Hh9 := H
 refine WK.alloc' (ti := ty50) rfl rfl rfl rfl H ?_
 intro i8 S hi8 H
 refine ⟨(pend_cons (ld (H.get 1 rfl) rfl) (pend_cons (ld (H.get 1 rfl) rfl) pend_nil)), ?_⟩
 refine WK.nil <| wos 0 H hi8 rfl rfl rfl rfl rfl rfl rfl rfl rfl rfl ?_
 intro S H
 replace H : Hp [] [] _ [(i8, .cells (c_Api_Element y7)), (i1, .cells (c_Api_Msg a0))] [] [] := H
 refine WO.nil <| KX.seq_n <| WC.seqR <| wg H 0 rfl rfl rfl rfl ?_
 obtain ⟨y10, hy10, h⟩ := bindS h
 refine cl (.tup [(.str y10.1), (.bool y10.2)]) [(.agg (c_Api_Element y7))] rfl rfl rfl rfl (sv (s28 _ hy10)) <| us 5 rfl <| WO.nil <| WC.seq <| WC.block <| WC.seqR <| us 1 rfl <| w (.bool (!y10.2)) rfl rfl <| w (.bool (!y10.2)) rfl rfl ?_
 refine WO.split 4 (SH H [(4, (.ptr i8 0)), (5, (.str y10.1)), (29, (.bool ((!y10.2) || (decide ((Str.len y10.1) > 4000)))))]) ?_ ?_
 revert H
 cases hc20 : (!y10.2)
 intro H
 refine us 4 rfl <| WO.nil ?_
 exact kf H
 intro H
 refine us 4 rfl <| WO.nil ?_
 exact kf H
 rintro σ S e ⟨hk, H, rfl⟩
 refine WO.of_known hk <| us 1 rfl <| WO.nil ?_
 rcases iteS h with ⟨hc28, h⟩ | ⟨hc28, h⟩
 refine WC.condT rfl hc28 <| WC.seqR <| us 2 rfl <| WO.nil <| WC.ret <| KX.block_r <| KX.seq_r ?_
 have h := oi h; subst h
 refine KB.ret (vs := [(.str []), (.int .i64 13)]) (res_tmp rfl (res_tmp rfl res_nil)) (fl_cons' rfl (fl_cons' rfl rfl)) ?_
 exact rfl
 refine WC.condF rfl hc28 <| WC.seqR <| wg H 0 rfl rfl rfl rfl ?_
 obtain ⟨y25, hy25, h⟩ := bindS h
 refine cl (.int .i64 y25) [(.agg (c_Api_Element y7))] rfl rfl rfl rfl (sv (s29 _ hy25)) <| us 2 rfl <| WO.nil ?_
 rcases iteS h with ⟨hc27, h⟩ | ⟨hc27, h⟩
 refine WC.condT rfl hc27 <| WC.seqR <| us 2 rfl <| WO.nil <| WC.ret <| KX.block_r <| KX.seq_r ?_
 have h := oi h; subst h
 refine KB.ret (vs := [(.str []), (.int .i64 12)]) (res_tmp rfl (res_tmp rfl res_nil)) (fl_cons' rfl (fl_cons' rfl rfl)) ?_
 exact rfl
 refine WC.condF rfl hc27 <| WC.skip <| KX.block_n <| KX.seq_n <| WC.seqR <| us 3 rfl <| WO.nil <| WC.ret ?_
 have h := oi h; subst h
 refine KB.ret (vs := [(.str y10.1), (.int .i64 0)]) (res_tmp rfl (res_tmp rfl res_nil)) (fl_cons' rfl (fl_cons' rfl rfl)) ?_
 exact rfl
end Go.Proofs.YtbinlabnilidiaaGreatDoor.M
