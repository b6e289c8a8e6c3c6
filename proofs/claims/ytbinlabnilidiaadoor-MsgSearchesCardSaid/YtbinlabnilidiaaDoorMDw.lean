/- Part of the proof: the runs of functions on the abstract machine. -/
import Derived.Test.YtbinlabnilidiaaDoorPamM4
import Derived.Test.YtbinlabnilidiaaDoorFns
import Derived.Test.YtbinlabnilidiaaDoorMDe
import Derived.Test.YtbinlabnilidiaaDoorMDc
import Derived.Test.YtbinlabnilidiaaDoorMDc1
namespace Go.Proofs.YtbinlabnilidiaaDoor.M
open Go Go.Pam Go.RowKit Go.WideShapes
set_option maxRecDepth 8000
set_option linter.unusedVariables false
set_option linter.unusedSimpArgs false

def F12 (k : Nat) (a0 : Int) (a1 : Sl Api_Element) : Option Api_Element :=
 some (Api_Element.mk a0 [] a1)
theorem s12 : ∀ k : Nat, ∀ {a0 : Int} {a1 : Sl Api_Element} {r : Api_Element}, F12 k a0 a1 = some r → Q 12 [(.int .u8 a0), (encSl e_Api_Element a1)] (.agg (c_Api_Element r)) := by
 intro k a0 a1 r h vs ha S
 unfold F12 at h
 refine evw_pureW (pf := fn12) rfl rfl ha (Nat.le_of_ble_eq_true rfl) (by simp [PV.clean, cleanL, clean_encSl clean_Api_Element]) (by simp [PV.clean, cleanL, clean_encSl clean_Api_Element]) ?_
 refine WB.of (pf := fn12) rfl ?_
 have H := Hp.start []
 refine WC.seqR <| WO.alloc' (ti := ty44) rfl rfl rfl rfl H ?_
 intro i1 S hi1 H
 refine WO.nil <| WC.seqR <| us 2 rfl <| w (.agg [(.int .u8 a0), (.str []), (encSl e_Api_Element a1)]) rfl (nz (fz_tmp' rfl (fe rfl rfl)) (stp_build (ti := ty44) rfl rfl rfl rfl rfl (fill_cons rfl rfl rfl rfl (Nat.le_of_ble_eq_true rfl) rfl (fill_cons rfl (isSl_enc _ _).one.1 (isSl_enc _ _).one.2 rfl (Nat.le_of_ble_eq_true rfl) rfl rfl)))) <| wos 0 H hi1 rfl rfl rfl rfl rfl rfl rfl rfl rfl rfl ?_
 intro S H
 replace H : Hp [] [] _ [(i1, .cells [(.int .u8 a0), (.str []), (encSl e_Api_Element a1)])] [] [] := H
 refine WO.nil <| WC.ret ?_
 have h := oi h; subst h
 refine KB.ret (vs := [(.agg [(.int .u8 a0), (.str []), (encSl e_Api_Element a1)])]) (res_cell rfl (H.get 0 rfl) rfl res_nil) (fl_cons' rfl rfl) ?_
 exact (by simp only [st_tup, List.map_cons, List.map_nil, tupled, st_agg, st1_int, st1_str, strip1_enc, e_Api_Element_eq, c_Api_Element])
def F13 (k : Nat) (a0 : Int) (a1 : Str) : Option Api_Element :=
 some (Api_Element.mk a0 a1 none)
theorem s13 : ∀ k : Nat, ∀ {a0 : Int} {a1 : Str} {r : Api_Element}, F13 k a0 a1 = some r → Q 13 [(.int .u8 a0), (.str a1)] (.agg (c_Api_Element r)) := by
 intro k a0 a1 r h vs ha S
 unfold F13 at h
 refine evw_pureW (pf := fn13) rfl rfl ha (Nat.le_of_ble_eq_true rfl) rfl (by simp [PV.clean, cleanL, clean_encSl clean_Api_Element]) ?_
 refine WB.of (pf := fn13) rfl ?_
 have H := Hp.start []
 refine WC.seqR <| WO.alloc' (ti := ty44) rfl rfl rfl rfl H ?_
 intro i1 S hi1 H
 refine WO.nil <| WC.seqR <| us 2 rfl <| w (.agg [(.int .u8 a0), (.str a1), .nils]) rfl (nz rfl (stp_build (ti := ty44) rfl rfl rfl rfl rfl (fill_cons rfl rfl rfl rfl (Nat.le_of_ble_eq_true rfl) rfl (fill_cons rfl rfl rfl rfl (Nat.le_of_ble_eq_true rfl) rfl rfl)))) <| wos 0 H hi1 rfl rfl rfl rfl rfl rfl rfl rfl rfl rfl ?_
 intro S H
 replace H : Hp [] [] _ [(i1, .cells [(.int .u8 a0), (.str a1), .nils])] [] [] := H
 refine WO.nil <| WC.ret ?_
 have h := oi h; subst h
 refine KB.ret (vs := [(.agg [(.int .u8 a0), (.str a1), .nils])]) (res_cell rfl (H.get 0 rfl) rfl res_nil) (fl_cons' rfl rfl) ?_
 exact (by simp only [st_tup, List.map_cons, List.map_nil, tupled, st_agg, st1_int, st1_str, st1_nils, encSl_none, e_Api_Element_eq, c_Api_Element])
def F34_L0 (k : Nat) : Nat → (Sl Int) → Int → Option (Out Str ((Sl Int) × Int))
 | 0, _, _ => none
 | n + 1, x51, x53 =>
  Option.bind (Sl.at? x51 0) fun y64 =>
  Option.bind (if (bAnd .u8 y64 128) != 0 then
  some (-1)
  else
  some 0) fun y67 =>
  if x53 == y67 then
  some (Out.ret (Str.of x51))
  else
  Option.bind (Sl.app? 1 (some [cv .u8 x53]) (Sl.l x51)) fun z71 =>
  Option.bind (shr? .i64 x53 8) fun z73 =>
  F34_L0 k n z71 z73
def F34 (k : Nat) (a0 : Int) : Option Str :=
 Option.bind (shr? .i64 a0 8) fun z2 =>
 Option.bind (F34_L0 k k (some [cv .u8 a0]) z2) fun y76 =>
 match y76 with
 | .ret y76r => some y76r
 | .brk y76b =>
 none
theorem l34_L0 {k : Nat} {S0 : List SObj} {R : List Nat} {K : KX}  {o : Out Str ((Sl Int) × Int)}
  (hret : ∀ r : Str, o = .ret r → EK [(2, (.str r))] S0 R [] [] [] (K .ret))
  (hbrk : ∀ y : (Sl Int) × Int, o = .brk y → ∀ {σ' : Nat → PV} {S' : List SObj}, ∀ (v75 : PV) (_ : IsSl (eI .u8) y.1 v75), Known [(3, v75)] σ' → Hp S0 R S' [] [] [] → K (.exit 0) σ' S' false) :
  ∀ {n : Nat} {x51 : Sl Int} {x53 : Int}, F34_L0 k n x51 x53 = some o → ∀ {σ : Nat → PV} {S : List SObj}, ∀ (v52 : PV) (_ : IsSl (eI .u8) x51 v52), Known [(3, v52), (4, (.int .i64 x53))] σ → Hp S0 R S [] [] [] → WC env ⟨28, S0.length⟩ (.loop pc34L0) σ S false K := by
 intro n
 induction n with
 | zero => intro _ _ h; cases h
 | succ n ih =>
  intro x51 x53 h σ S v52 hv52 hk H
  rw [F34_L0] at h
  refine WC.loop <| WC.of_known hk <| WC.seq <| WC.block <| WC.seqR <| us 1 rfl <| WO.nil <| WC.seq <| WC.seqR <| w v52 rfl rfl ?_
  obtain ⟨y64, hy64, h⟩ := bindS h
  refine w (.iptr [(.int .u8 y64)] 0) rfl (nz rfl (stp_idxAddr rfl hv52 rfl rfl rfl hy64 rfl rfl)) <| us 3 rfl <| WO.nil ?_
  obtain ⟨y67, hy67, hOy67⟩ := bindS h
  refine WC.join (SJ [(3, v52), (4, (.int .i64 x53)), (5, (.int .i64 y67))] S0 R [] [] [] false) ?_ ?_
  replace h := hy67
  rcases iteS h with ⟨hc68, h⟩ | ⟨hc68, h⟩
  refine WC.condT rfl hc68 <| WC.region <| us 1 rfl <| WO.nil <| KX.seq_n ?_
  have h := oi h; subst h
  exact kh H
  refine WC.condF rfl hc68 <| WC.skip <| KX.seq_n ?_
  have h := oi h; subst h
  exact kh H
  rintro σ S e ⟨hk, H, rfl⟩
  replace h := hOy67
  refine KX.of_known hk <| KX.seq_n <| WC.seq <| WC.seqR <| us 3 rfl <| WO.nil ?_
  rcases iteS h with ⟨hc74, h⟩ | ⟨hc74, h⟩
  refine WC.condT rfl hc74 <| WC.seqR <| w v52 rfl rfl <| w (.str (Str.of x51)) rfl (nz (fz_tmp' hv52.frz rfl) (stp_text rfl hv52 rfl rfl rfl)) <| us 1 rfl <| WO.nil <| WC.ret <| KX.seq_r <| KX.block_r <| KX.seq_r <| KX.seq_r ?_
  have h := oi h; subst h
  exact hret _ rfl kn (hs H)
  refine WC.condF rfl hc74 <| WC.skip <| KX.seq_n <| WC.region <| us 2 rfl <| WS rfl (nz rfl (stp_buildSlice (ys := [cv .u8 x53]) (f := (eI .u8)) (parts := [(0, (.int .u8 (cv .u8 x53)))]) rfl rfl rfl rfl rfl rfl (fc ⟨rfl, rfl⟩ (fun p hp => nomatch hp)) rfl)) ?_
  have hv70 : IsSl (eI .u8) (some [cv .u8 x53]) _ := ⟨.full, rfl⟩
  refine w v52 rfl rfl ?_
  obtain ⟨z71, hz71, h⟩ := bindS h
  have H := H.addFull (List.map (eI .u8) [cv .u8 x53]) 1 (sized_map (f := (eI .u8)) (fun _ => rfl) _)
  refine WO.ex rfl (nzx (fz_tmp' hv52.frz rfl) (stp_app (f := (eI .u8)) (ei := ty5) H 0 rfl rfl hv70 rfl hv52 rfl rfl rfl rfl (fun _ => rfl) hz71)) ?_
  rintro v72 S ⟨hv72, H⟩
  replace H : Hp S0 R _ [] [(v72, 1)] [] := H
  refine w v72 rfl rfl <| WO.nil <| KX.block_n <| KX.seq_n <| WC.region <| us 1 rfl ?_
  obtain ⟨z73, hz73, h⟩ := bindS h
  refine w (.int .i64 z73) rfl (nz rfl (stp_shr rfl rfl hz73)) <| us 1 rfl <| WO.nil <| KX.seq_n ?_
  exact ih h v72 (hv72) kn (H.sub .slnil (.cons _ .slnil) .slnil)
theorem s34 : ∀ k : Nat, ∀ {a0 : Int} {r : Str}, F34 k a0 = some r → Q 34 [(.int .i64 a0)] (.str r) := by
 intro k a0 r h
 unfold F34 at h
 refine Qe.go (pf := fn34) rfl rfl (Nat.le_of_ble_eq_true rfl) rfl rfl rfl fun H => ?_
 refine WC.seqR <| us 1 rfl <| WO.nil <| WC.seqR <| us 2 rfl <| WS rfl (nz rfl (stp_buildSlice (ys := [cv .u8 a0]) (f := (eI .u8)) (parts := [(0, (.int .u8 (cv .u8 a0)))]) rfl rfl rfl rfl rfl rfl (fc ⟨rfl, rfl⟩ (fun p hp => nomatch hp)) rfl)) ?_
 have hv1 : IsSl (eI .u8) (some [cv .u8 a0]) _ := ⟨.full, rfl⟩
 refine us 1 rfl <| WO.nil <| WC.seqR <| us 1 rfl ?_
 obtain ⟨z2, hz2, h⟩ := bindS h
 refine w (.int .i64 z2) rfl (nz rfl (stp_shr rfl rfl hz2)) <| us 1 rfl <| WO.nil ?_
 obtain ⟨y76, hy76, hOy76⟩ := bindS h
 refine WC.block ?_
 refine l34_L0 ?_ ?_ hy76 (.lst (List.map (eI .u8) [cv .u8 a0]) .full) (hv1) kn (hs H)
 intro y76r he σ S  hk H; subst he; replace h := hOy76; dsimp only at h
 refine KX.of_known hk <| KX.block_r ?_
 have h := oi h; subst h
 exact kr (.str y76r) rfl rfl rfl
 intro y76b he σ S v77 hv77 hk H; subst he; replace h := hOy76; dsimp only at h
 refine KX.of_known hk <| KX.block_x ?_
 cases h
def F15 (k : Nat) (a0 : Int) (a1 : Int) : Option Api_Element :=
 Option.bind (F34 k a1) fun y2 =>
 Option.bind (F13 k a0 y2) fun y3 =>
 some y3
theorem s15 : ∀ k : Nat, ∀ {a0 : Int} {a1 : Int} {r : Api_Element}, F15 k a0 a1 = some r → Q 15 [(.int .u8 a0), (.int .i64 a1)] (.agg (c_Api_Element r)) := by
 intro k a0 a1 r h vs ha S
 unfold F15 at h
 refine evw_pureW (pf := fn15) rfl rfl ha (Nat.le_of_ble_eq_true rfl) rfl (by simp [PV.clean, cleanL, clean_encSl clean_Api_Element]) ?_
 refine WB.of (pf := fn15) rfl ?_
 have H := Hp.start []
 refine WC.seqR <| WO.alloc' (ti := ty44) rfl rfl rfl rfl H ?_
 intro i1 S hi1 H
 refine WO.nil <| WC.seqR <| us 2 rfl ?_
 obtain ⟨y2, hy2, h⟩ := bindS h
 refine cl (.str y2) [(.int .i64 a1)] rfl rfl rfl rfl (s34 _ hy2 rfl) ?_
 obtain ⟨y3, hy3, h⟩ := bindS h
 refine cl (.agg (c_Api_Element y3)) [(.int .u8 a0), (.str y2)] rfl rfl rfl rfl (s13 _ hy3 rfl) <| wos 0 H hi1 rfl rfl rfl rfl rfl rfl rfl rfl rfl rfl ?_
 intro S H
 replace H : Hp [] [] _ [(i1, .cells (c_Api_Element y3))] [] [] := H
 refine WO.nil <| WC.ret ?_
 have h := oi h; subst h
 refine KB.ret (vs := [(.agg (c_Api_Element y3))]) (res_cell rfl (H.get 0 rfl) rfl res_nil) (fl_cons' rfl rfl) ?_
 exact (by simp only [st_tup, List.map_cons, List.map_nil, tupled, st_agg, st1_int, st1_str, strip1_enc, e_Api_Element_eq, c_Api_Element])
def F50 (k : Nat) (a0 : Bool) : Option Str :=
 if a0 then
 some (Str.of (some [255]))
 else
 some [0]
theorem s50 : ∀ k : Nat, ∀ {a0 : Bool} {r : Str}, F50 k a0 = some r → Q 50 [(.bool a0)] (.str r) := by
 intro k a0 r h
 unfold F50 at h
 refine Qe.go (pf := fn50) rfl rfl (Nat.le_of_ble_eq_true rfl) rfl rfl rfl fun H => ?_
 refine WC.seqR <| us 1 rfl <| WO.nil <| WC.seq <| WC.seqR <| us 1 rfl <| WO.nil ?_
 rcases iteS h with ⟨hc4, h⟩ | ⟨hc4, h⟩
 refine WC.condT rfl hc4 <| WC.seqR <| WS rfl (nz rfl (stp_buildSlice (ys := [255]) (f := (eI .u8)) (parts := [(0, (.int .u8 255))]) rfl rfl rfl rfl rfl rfl (fc ⟨rfl, rfl⟩ (fun p hp => nomatch hp)) rfl)) ?_
 have hv3 : IsSl (eI .u8) (some [255]) _ := ⟨.full, rfl⟩
 refine w (.str (Str.of (some [255]))) rfl (nz (fz_tmp' hv3.frz rfl) (stp_text rfl hv3 rfl rfl rfl)) <| us 1 rfl <| WO.nil <| WC.ret <| KX.seq_r ?_
 have h := oi h; subst h
 exact kr (.str (Str.of (some [255]))) rfl rfl rfl
 refine WC.condF rfl hc4 <| WC.skip <| KX.seq_n <| WC.seqR <| us 1 rfl <| WO.nil <| WC.ret ?_
 have h := oi h; subst h
 exact kr (.str [0]) rfl rfl rfl
def F31 (k : Nat) (a0 : Bool) : Option Api_Element :=
 Option.bind (F50 k a0) fun y2 =>
 Option.bind (F13 k 1 y2) fun y3 =>
 some y3
theorem s31 : ∀ k : Nat, ∀ {a0 : Bool} {r : Api_Element}, F31 k a0 = some r → Q 31 [(.bool a0)] (.agg (c_Api_Element r)) := by
 intro k a0 r h vs ha S
 unfold F31 at h
 refine evw_pureW (pf := fn31) rfl rfl ha (Nat.le_of_ble_eq_true rfl) rfl (by simp [PV.clean, cleanL, clean_encSl clean_Api_Element]) ?_
 refine WB.of (pf := fn31) rfl ?_
 have H := Hp.start []
 refine WC.seqR <| WO.alloc' (ti := ty44) rfl rfl rfl rfl H ?_
 intro i1 S hi1 H
 refine WO.nil <| WC.seqR <| us 1 rfl ?_
 obtain ⟨y2, hy2, h⟩ := bindS h
 refine cl (.str y2) [(.bool a0)] rfl rfl rfl rfl (s50 _ hy2 rfl) ?_
 obtain ⟨y3, hy3, h⟩ := bindS h
 refine cl (.agg (c_Api_Element y3)) [(.int .u8 1), (.str y2)] rfl rfl rfl rfl (s13 _ hy3 rfl) <| wos 0 H hi1 rfl rfl rfl rfl rfl rfl rfl rfl rfl rfl ?_
 intro S H
 replace H : Hp [] [] _ [(i1, .cells (c_Api_Element y3))] [] [] := H
 refine WO.nil <| WC.ret ?_
 have h := oi h; subst h
 refine KB.ret (vs := [(.agg (c_Api_Element y3))]) (res_cell rfl (H.get 0 rfl) rfl res_nil) (fl_cons' rfl rfl) ?_
 exact (by simp only [st_tup, List.map_cons, List.map_nil, tupled, st_agg, st1_int, st1_str, strip1_enc, e_Api_Element_eq, c_Api_Element])
def F32_L1 (rc0 : Api_Filter → Option Api_Element) (k : Nat) (a4382 : Int) (a4385 : Sl Api_Filter) (a4386 : Int) (a4388 : Api_Element) : Nat → (Sl Api_Element) → Int → Option ((Sl Api_Element) × Int)
 | 0, _, _ => none
 | n + 1, x4383, x4387 =>
  if decide (x4387 < a4386) then
  Option.bind (Sl.at? a4385 x4387) fun y4396 =>
  Option.bind (rc0 y4396) fun y4398 =>
  Option.bind (Sl.app? 48 x4383 (Sl.l (some [y4398]))) fun z4400 =>
  F32_L1 rc0 k a4382 a4385 a4386 a4388 n z4400 (ad .i64 x4387 1)
  else
  some (x4383, x4387)
def F32_L3 (rc0 : Api_Filter → Option Api_Element) (k : Nat) (a4854 : Int) (a4857 : Sl Str) (a4858 : Int) (a4860 : Api_Element) (a4861 : Api_Filter) : Nat → (Sl Api_Element) → Int → Option ((Sl Api_Element) × Int)
 | 0, _, _ => none
 | n + 1, x4855, x4859 =>
  if decide (x4859 < a4858) then
  Option.bind (Sl.at? a4857 x4859) fun y4897 =>
  Option.bind (if x4859 == 0 then
  some 128
  else
  Option.bind (if x4859 == (sb .i64 (Sl.len a4861.Subs) 1) then
  some 130
  else
  some 129) fun y4911 =>
  some y4911) fun y4908 =>
  Option.bind (if !(y4897 == []) then
  Option.bind (F13 k y4908 y4897) fun y4926 =>
  Option.bind (Sl.app? 48 x4855 (Sl.l (some [y4926]))) fun z4928 =>
  some z4928
  else
  some x4855) fun y4924 =>
  F32_L3 rc0 k a4854 a4857 a4858 a4860 a4861 n y4924 (ad .i64 x4859 1)
  else
  some (x4855, x4859)
def F32 : Nat → Api_Filter → Option Api_Element
 | 0, _ => none
 | k + 1, a0 =>
  Option.bind (Sl.at? (some [0, 160, 161, 162, 163, 165, 166, 135, 164]) a0.Kind) fun y3 =>
  if a0.Kind == 7 then
  Option.bind (F13 k y3 a0.Attr) fun y3706 =>
  some y3706
  else
  Option.bind (if a0.Kind == 1 then
  some (a0.Kind == 1)
  else
  Option.bind (if a0.Kind == 2 then
  some (a0.Kind == 2)
  else
  some (a0.Kind == 3)) fun y3720 =>
  some y3720) fun y3717 =>
  if y3717 then
  Option.bind (F32_L1 (F32 k) k y3 a0.Kids (Sl.len a0.Kids) (Api_Element.mk 0 [] none) k none 0) fun y4404 =>
  Option.bind (F12 k y3 y4404.1) fun y4406 =>
  some y4406
  else
  if a0.Kind == 8 then
  Option.bind (F32_L3 (F32 k) k y3 a0.Subs (Sl.len a0.Subs) (Api_Element.mk 0 [] none) a0 k none 0) fun y4933 =>
  Option.bind (F13 k 4 a0.Attr) fun y4935 =>
  Option.bind (F12 k 48 y4933.1) fun y4936 =>
  Option.bind (F12 k y3 (some [y4935, y4936])) fun y4938 =>
  some y4938
  else
  Option.bind (F13 k 4 a0.Attr) fun y4939 =>
  Option.bind (F13 k 4 a0.Value) fun y4940 =>
  Option.bind (F12 k y3 (some [y4939, y4940])) fun y4942 =>
  some y4942
theorem l32_L1 {rc0 : Api_Filter → Option Api_Element} (hrc0 : ∀ {a0 : Api_Filter} {r : Api_Element}, rc0 a0 = some r → Q 32 [(.agg (c_Api_Filter a0))] (.agg (c_Api_Element r))) {k : Nat} {a4382 : Int} {a4385 : Sl Api_Filter} {a4386 : Int} {a4388 : Api_Element} {S0 : List SObj} {R : List Nat} {K : KX} {i2 : Nat} (hi2 : S0.length ≤ i2)  {o : ((Sl Api_Element) × Int)}
  (hbrk : ∀ {σ' : Nat → PV} {S' : List SObj}, ∀ (v4403 : PV) (_ : IsSl e_Api_Element o.1 v4403), Known [(2, (.ptr i2 0)), (3, (.int .u8 a4382)), (4, v4403)] σ' → Hp S0 R S' [(i2, .cells [(.int .u8 a4388.Tag), (.str a4388.Body), .nils])] [(v4403, 3)] [] → K (.exit 1) σ' S' false) :
  ∀ {n : Nat} {x4383 : Sl Api_Element} {x4387 : Int}, F32_L1 rc0 k a4382 a4385 a4386 a4388 n x4383 x4387 = some o → ∀ {σ : Nat → PV} {S : List SObj}, ∀ (v4384 : PV) (_ : IsSl e_Api_Element x4383 v4384), Known [(2, (.ptr i2 0)), (3, (.int .u8 a4382)), (4, v4384), (28, (encSl e_Api_Filter a4385)), (29, (.int .i64 a4386)), (30, (.int .i64 x4387))] σ → Hp S0 R S [(i2, .cells [(.int .u8 a4388.Tag), (.str a4388.Body), .nils])] [(v4384, 3)] [] → WC env ⟨87, S0.length⟩ (.loop pc32L1) σ S false K := by
 intro n
 induction n with
 | zero => intro _ _ h; cases h
 | succ n ih =>
  intro x4383 x4387 h σ S v4384 hv4384 hk H
  rw [F32_L1] at h
  refine WC.loop <| WC.of_known hk <| WC.seqR <| us 1 rfl <| WO.nil <| WC.seq ?_
  rcases iteS h with ⟨hc4402, h⟩ | ⟨hc4402, h⟩
  refine WC.condT rfl hc4402 <| WC.skip <| KX.seq_n <| WC.seq <| WC.block <| WC.seqR ?_
  obtain ⟨y4396, hy4396, h⟩ := bindS h
  refine w (.iptr (c_Api_Filter y4396) 0) rfl (nz rfl (stp_idxAddr rfl (isSl_enc _ _) rfl rfl rfl hy4396 (e_Api_Filter_cells _) rfl)) <| us 1 rfl <| WO.alloc' (ti := ty28) rfl rfl rfl rfl H ?_
  intro i4397 S hi4397 H
  refine wos 0 H hi4397 rfl rfl rfl rfl rfl rfl rfl rfl rfl rfl ?_
  intro S H
  refine WO.nil <| WC.region <| w v4384 rfl rfl <| wg H 0 rfl rfl rfl rfl ?_
  obtain ⟨y4398, hy4398, h⟩ := bindS h
  refine cl (.agg (c_Api_Element y4398)) [(.agg (c_Api_Filter y4396))] rfl rfl rfl rfl (sv (hrc0 hy4398)) <| WS rfl (nz rfl (stp_buildSlice (ys := [y4398]) (f := e_Api_Element) (parts := [(0, (.agg (c_Api_Element y4398)))]) rfl rfl rfl rfl rfl (by simp only [st_agg, List.map_cons, List.map_nil, st1_int, st1_str, strip1_enc, e_Api_Element_eq, tupled]) (fc ⟨rfl, rfl⟩ (fun p hp => nomatch hp)) rfl)) ?_
  have hv4399 : IsSl e_Api_Element (some [y4398]) _ := ⟨.full, rfl⟩
  obtain ⟨z4400, hz4400, h⟩ := bindS h
  refine WO.ex rfl (nzx (fz_tmp' hv4399.frz rfl) (stp_app (f := e_Api_Element) (ei := ty44) H 0 rfl rfl hv4384 rfl hv4399 rfl rfl rfl rfl (fun a => (e_Api_Element_one a).2.1) hz4400)) ?_
  rintro v4401 S ⟨hv4401, H⟩
  replace H : Hp S0 R _ [(i4397, .cells (c_Api_Filter y4396)), (i2, .cells [(.int .u8 a4388.Tag), (.str a4388.Body), .nils])] [(v4401, 3)] [] := H
  refine w v4401 rfl rfl <| WO.nil <| KX.block_n <| KX.seq_n <| WC.region <| us 2 rfl <| WO.nil <| KX.seq_n ?_
  exact ih h v4401 (hv4401) kn (H.sub (.cons _ (.cons_cons _ .slnil)) (.cons_cons _ .slnil) .slnil)
  refine WC.condF rfl hc4402 <| WC.exit <| KX.seq_x <| KX.seq_x ?_
  have h := oi h; subst h
  exact hbrk v4384 (hv4384) kn (hs H)
theorem l32_L3 {rc0 : Api_Filter → Option Api_Element} (hrc0 : ∀ {a0 : Api_Filter} {r : Api_Element}, rc0 a0 = some r → Q 32 [(.agg (c_Api_Filter a0))] (.agg (c_Api_Element r))) {k : Nat} {a4854 : Int} {a4857 : Sl Str} {a4858 : Int} {a4860 : Api_Element} {a4861 : Api_Filter} {S0 : List SObj} {R : List Nat} {K : KX} {i2 : Nat} {i1 : Nat} (hi2 : S0.length ≤ i2) (hi1 : S0.length ≤ i1)  {o : ((Sl Api_Element) × Int)}
  (hbrk : ∀ {σ' : Nat → PV} {S' : List SObj}, ∀ (v4932 : PV) (_ : IsSl e_Api_Element o.1 v4932), Known [(1, (.ptr i1 0)), (2, (.ptr i2 0)), (3, (.int .u8 a4854)), (7, v4932)] σ' → Hp S0 R S' [(i2, .cells [(.int .u8 a4860.Tag), (.str a4860.Body), .nils]), (i1, .cells (c_Api_Filter a4861))] [(v4932, 3)] [] → K (.exit 3) σ' S' false) :
  ∀ {n : Nat} {x4855 : Sl Api_Element} {x4859 : Int}, F32_L3 rc0 k a4854 a4857 a4858 a4860 a4861 n x4855 x4859 = some o → ∀ {σ : Nat → PV} {S : List SObj}, ∀ (v4856 : PV) (_ : IsSl e_Api_Element x4855 v4856), Known [(1, (.ptr i1 0)), (2, (.ptr i2 0)), (3, (.int .u8 a4854)), (7, v4856), (46, (encSl eS a4857)), (47, (.int .i64 a4858)), (48, (.int .i64 x4859))] σ → Hp S0 R S [(i2, .cells [(.int .u8 a4860.Tag), (.str a4860.Body), .nils]), (i1, .cells (c_Api_Filter a4861))] [(v4856, 3)] [] → WC env ⟨87, S0.length⟩ (.loop pc32L3) σ S false K := by
 intro n
 induction n with
 | zero => intro _ _ h; cases h
 | succ n ih =>
  intro x4855 x4859 h σ S v4856 hv4856 hk H
  rw [F32_L3] at h
  refine WC.loop <| WC.of_known hk <| WC.seqR <| us 1 rfl <| WO.nil <| WC.seq ?_
  rcases iteS h with ⟨hc4931, h⟩ | ⟨hc4931, h⟩
  refine WC.condT rfl hc4931 <| WC.skip <| KX.seq_n <| WC.seq <| WC.block <| WC.seqR <| us 1 rfl ?_
  obtain ⟨y4897, hy4897, h⟩ := bindS h
  refine w (.iptr [(.str y4897)] 0) rfl (nz rfl (stp_idxAddr rfl (isSl_enc _ _) rfl rfl rfl hy4897 rfl rfl)) <| us 3 rfl <| WO.nil <| WC.seqR <| us 1 rfl <| WO.nil <| WC.seq <| WC.seqR <| us 2 rfl <| WO.nil ?_
  obtain ⟨y4908, hy4908, hOy4908⟩ := bindS h
  refine WC.join (SJ [(1, (.ptr i1 0)), (2, (.ptr i2 0)), (3, (.int .u8 a4854)), (7, v4856), (9, (.str y4897)), (10, (.int .u8 y4908)), (46, (encSl eS a4857)), (47, (.int .i64 a4858)), (48, (.int .i64 x4859))] S0 R [(i2, .cells [(.int .u8 a4860.Tag), (.str a4860.Body), .nils]), (i1, .cells (c_Api_Filter a4861))] [(v4856, 3)] [] false) ?_ ?_
  replace h := hy4908
  rcases iteS h with ⟨hc4913, h⟩ | ⟨hc4913, h⟩
  refine WC.condT rfl hc4913 <| WC.region <| us 1 rfl <| WO.nil <| KX.seq_n ?_
  have h := oi h; subst h
  exact kh H
  refine WC.condF rfl hc4913 <| WC.seqR <| us 2 rfl <| wg H 1 rfl rfl rfl rfl <| wl rfl rfl rfl <| us 2 rfl <| WO.nil ?_
  obtain ⟨y4911, hy4911, hOy4911⟩ := bindS h
  refine WC.join (SJ [(1, (.ptr i1 0)), (2, (.ptr i2 0)), (3, (.int .u8 a4854)), (7, v4856), (9, (.str y4897)), (10, (.int .u8 y4911)), (46, (encSl eS a4857)), (47, (.int .i64 a4858)), (48, (.int .i64 x4859))] S0 R [(i2, .cells [(.int .u8 a4860.Tag), (.str a4860.Body), .nils]), (i1, .cells (c_Api_Filter a4861))] [(v4856, 3)] [] false) ?_ ?_
  replace h := hy4911
  rcases iteS h with ⟨hc4912, h⟩ | ⟨hc4912, h⟩
  refine WC.condT rfl hc4912 <| WC.region <| us 1 rfl <| WO.nil <| KX.seq_n ?_
  have h := oi h; subst h
  exact kh H
  refine WC.condF rfl hc4912 <| WC.skip <| KX.seq_n ?_
  have h := oi h; subst h
  exact kh H
  rintro σ S e ⟨hk, H, rfl⟩
  replace h := hOy4911
  refine KX.of_known hk <| KX.seq_n ?_
  have h := oi h; subst h
  exact kh H
  rintro σ S e ⟨hk, H, rfl⟩
  replace h := hOy4908
  refine KX.of_known hk <| KX.seq_n <| WC.seqR <| us 2 rfl <| WO.nil ?_
  obtain ⟨y4924, hy4924, hOy4924⟩ := bindS h
  refine WC.join (fun σ' S' e' => ∃ v4925, IsSl e_Api_Element y4924 v4925 ∧ Known ([(1, (.ptr i1 0)), (2, (.ptr i2 0)), (3, (.int .u8 a4854)), (7, v4925), (46, (encSl eS a4857)), (47, (.int .i64 a4858)), (48, (.int .i64 x4859))]) σ' ∧ Hp S0 R S' [(i2, .cells [(.int .u8 a4860.Tag), (.str a4860.Body), .nils]), (i1, .cells (c_Api_Filter a4861))] [(v4925, 3)] [] ∧ e' = false) ?_ ?_
  replace h := hy4924
  rcases iteS h with ⟨hc4930, h⟩ | ⟨hc4930, h⟩
  refine WC.condT rfl hc4930 <| WC.region <| w v4856 rfl rfl <| us 2 rfl ?_
  obtain ⟨y4926, hy4926, h⟩ := bindS h
  refine cl (.agg (c_Api_Element y4926)) [(.int .u8 y4908), (.str y4897)] rfl rfl rfl rfl (s13 _ hy4926 rfl) <| WS rfl (nz rfl (stp_buildSlice (ys := [y4926]) (f := e_Api_Element) (parts := [(0, (.agg (c_Api_Element y4926)))]) rfl rfl rfl rfl rfl (by simp only [st_agg, List.map_cons, List.map_nil, st1_int, st1_str, strip1_enc, e_Api_Element_eq, tupled]) (fc ⟨rfl, rfl⟩ (fun p hp => nomatch hp)) rfl)) ?_
  have hv4927 : IsSl e_Api_Element (some [y4926]) _ := ⟨.full, rfl⟩
  obtain ⟨z4928, hz4928, h⟩ := bindS h
  refine WO.ex rfl (nzx (fz_tmp' hv4927.frz rfl) (stp_app (f := e_Api_Element) (ei := ty44) H 0 rfl rfl hv4856 rfl hv4927 rfl rfl rfl rfl (fun a => (e_Api_Element_one a).2.1) hz4928)) ?_
  rintro v4929 S ⟨hv4929, H⟩
  replace H : Hp S0 R _ [(i2, .cells [(.int .u8 a4860.Tag), (.str a4860.Body), .nils]), (i1, .cells (c_Api_Filter a4861))] [(v4929, 3)] [] := H
  refine w v4929 rfl rfl <| WO.nil <| KX.seq_n ?_
  have h := oi h; subst h
  exact ⟨v4929, hv4929, kn, (hs H), rfl⟩
  refine WC.condF rfl hc4930 <| WC.skip <| KX.seq_n ?_
  have h := oi h; subst h
  exact ⟨v4856, hv4856, kn, (hs H), rfl⟩
  rintro σ S e ⟨v4925, hv4925, hk, H, rfl⟩
  replace h := hOy4924
  refine KX.of_known hk <| KX.block_n <| KX.seq_n <| WC.region <| us 2 rfl <| WO.nil <| KX.seq_n ?_
  exact ih h v4925 (hv4925) kn (hs H)
  refine WC.condF rfl hc4931 <| WC.exit <| KX.seq_x <| KX.seq_x ?_
  have h := oi h; subst h
  exact hbrk v4856 (hv4856) kn (hs H)
theorem s32 : ∀ k : Nat, ∀ {a0 : Api_Filter} {r : Api_Element}, F32 k a0 = some r → Q 32 [(.agg (c_Api_Filter a0))] (.agg (c_Api_Element r)) := by
 intro k
 induction k with
 | zero => intro _ r h; cases h
 | succ k ih =>
  intro a0 r h vs ha S
  rw [F32] at h
  refine evw_pureW (pf := fn32) rfl rfl ha (Nat.le_of_ble_eq_true rfl) (by simp [PV.clean, cleanL, clean_encSl clean_Api_Filter, clean_encSl clean_eS]) (by simp [PV.clean, cleanL, clean_encSl clean_Api_Element]) ?_
  refine WB.of (pf := fn32) rfl ?_
  have H := Hp.start []
  refine WC.seqR <| WO.box' rfl rfl rfl rfl rfl H ?_
  intro i1 S hi1 H
  refine WO.alloc' (ti := ty44) rfl rfl rfl rfl H ?_
  intro i2 S hi2 H
  refine WO.nil <| WC.seqR <| w (.agg z10_) rfl (nz rfl (stp_buildArr (ti := ty68) (ei := ty5) rfl rfl rfl rfl rfl (fill_cons (cells' := [(.int .u8 0), (.int .u8 160), (.int .u8 0), (.int .u8 0), (.int .u8 0), (.int .u8 0), (.int .u8 0), (.int .u8 0), (.int .u8 0)]) rfl rfl rfl rfl (Nat.le_of_ble_eq_true rfl) rfl (fill_cons (cells' := [(.int .u8 0), (.int .u8 160), (.int .u8 161), (.int .u8 0), (.int .u8 0), (.int .u8 0), (.int .u8 0), (.int .u8 0), (.int .u8 0)]) rfl rfl rfl rfl (Nat.le_of_ble_eq_true rfl) rfl (fill_cons (cells' := [(.int .u8 0), (.int .u8 160), (.int .u8 161), (.int .u8 162), (.int .u8 0), (.int .u8 0), (.int .u8 0), (.int .u8 0), (.int .u8 0)]) rfl rfl rfl rfl (Nat.le_of_ble_eq_true rfl) rfl (fill_cons (cells' := [(.int .u8 0), (.int .u8 160), (.int .u8 161), (.int .u8 162), (.int .u8 163), (.int .u8 0), (.int .u8 0), (.int .u8 0), (.int .u8 0)]) rfl rfl rfl rfl (Nat.le_of_ble_eq_true rfl) rfl (fill_cons (cells' := [(.int .u8 0), (.int .u8 160), (.int .u8 161), (.int .u8 162), (.int .u8 163), (.int .u8 0), (.int .u8 0), (.int .u8 0), (.int .u8 164)]) rfl rfl rfl rfl (Nat.le_of_ble_eq_true rfl) rfl (fill_cons (cells' := [(.int .u8 0), (.int .u8 160), (.int .u8 161), (.int .u8 162), (.int .u8 163), (.int .u8 165), (.int .u8 0), (.int .u8 0), (.int .u8 164)]) rfl rfl rfl rfl (Nat.le_of_ble_eq_true rfl) rfl (fill_cons (cells' := [(.int .u8 0), (.int .u8 160), (.int .u8 161), (.int .u8 162), (.int .u8 163), (.int .u8 165), (.int .u8 166), (.int .u8 0), (.int .u8 164)]) rfl rfl rfl rfl (Nat.le_of_ble_eq_true rfl) rfl (fill_cons (cells' := z10_) rfl rfl rfl rfl (Nat.le_of_ble_eq_true rfl) rfl rfl)))))))))) <| us 1 rfl <| wg H 1 rfl rfl rfl rfl ?_
  obtain ⟨y3, hy3, h⟩ := bindS h
  refine w (.int .u8 y3) rfl (nz rfl (stp_idxAgg (f := (eI .u8)) (xs := [0, 160, 161, 162, 163, 165, 166, 135, 164]) rfl rfl rfl rfl rfl hy3)) <| us 1 rfl <| WO.nil <| WC.seq <| WC.seqR <| us 1 rfl <| wg H 1 rfl rfl rfl rfl <| WO.nil <| WC.block <| WC.seqR <| us 2 rfl <| WO.nil ?_
  rcases iteS h with ⟨hc4945, h⟩ | ⟨hc4945, h⟩
  refine WC.condT rfl hc4945 <| WC.seqR <| us 2 rfl <| wg H 1 rfl rfl rfl rfl ?_
  obtain ⟨y3706, hy3706, h⟩ := bindS h
  refine cl (.agg (c_Api_Element y3706)) [(.int .u8 y3), (.str a0.Attr)] rfl rfl rfl rfl (s13 _ hy3706 rfl) <| wos 0 H hi2 rfl rfl rfl rfl rfl rfl rfl rfl rfl rfl ?_
  intro S H
  replace H : Hp [] [] _ [(i2, .cells (c_Api_Element y3706)), (i1, .cells (c_Api_Filter a0))] [] [] := H
  refine WO.nil <| WC.ret <| KX.block_r <| KX.seq_r ?_
  have h := oi h; subst h
  refine KB.ret (vs := [(.agg (c_Api_Element y3706))]) (res_cell rfl (H.get 0 rfl) rfl res_nil) (fl_cons' rfl rfl) ?_
  exact (by simp only [st_tup, List.map_cons, List.map_nil, tupled, st_agg, st1_int, st1_str, strip1_enc, e_Api_Element_eq, c_Api_Element])
  refine WC.condF rfl hc4945 <| WC.seq <| WC.seqR <| us 2 rfl <| WO.nil ?_
  obtain ⟨y3717, hy3717, hOy3717⟩ := bindS h
  refine WC.join (SJ [(1, (.ptr i1 0)), (2, (.ptr i2 0)), (3, (.int .u8 y3)), (16, (.int .i64 a0.Kind)), (23, (.bool y3717))] [] [] [(i2, .cells [(.int .u8 0), (.str []), .nils]), (i1, .cells (c_Api_Filter a0))] [] [] false) ?_ ?_
  replace h := hy3717
  rcases iteS h with ⟨hc3722, h⟩ | ⟨hc3722, h⟩
  refine WC.condT rfl hc3722 <| WC.skip <| KX.seq_n ?_
  have h := oi h; subst h
  exact kh H
  refine WC.condF rfl hc3722 <| WC.seqR <| us 2 rfl <| WO.nil ?_
  obtain ⟨y3720, hy3720, hOy3720⟩ := bindS h
  refine WC.join (SJ [(1, (.ptr i1 0)), (2, (.ptr i2 0)), (3, (.int .u8 y3)), (16, (.int .i64 a0.Kind)), (23, (.bool y3720))] [] [] [(i2, .cells [(.int .u8 0), (.str []), .nils]), (i1, .cells (c_Api_Filter a0))] [] [] false) ?_ ?_
  replace h := hy3720
  rcases iteS h with ⟨hc3721, h⟩ | ⟨hc3721, h⟩
  refine WC.condT rfl hc3721 <| WC.skip <| KX.seq_n ?_
  have h := oi h; subst h
  exact kh H
  refine WC.condF rfl hc3721 <| WC.region <| us 2 rfl <| WO.nil <| KX.seq_n ?_
  have h := oi h; subst h
  exact kh H
  rintro σ S e ⟨hk, H, rfl⟩
  replace h := hOy3720
  refine KX.of_known hk <| KX.seq_n ?_
  have h := oi h; subst h
  exact kh H
  rintro σ S e ⟨hk, H, rfl⟩
  replace h := hOy3717
  refine KX.of_known hk <| KX.seq_n ?_
  rcases iteS h with ⟨hc4944, h⟩ | ⟨hc4944, h⟩
  refine WC.condT rfl hc4944 <| WC.seqR <| us 1 rfl <| WO.nil <| WC.seq <| WC.seqR <| us 1 rfl <| wg H 1 rfl rfl rfl rfl <| wl rfl rfl rfl <| us 1 rfl <| WO.nil ?_
  obtain ⟨y4404, hy4404, hOy4404⟩ := bindS h
  refine WC.block ?_
  have H := H.addNil 3
  refine l32_L1 ih hi2 ?_ hy4404 .nils ((isSl_nil _)) kn (H.sub (.cons_cons _ (.cons _ .slnil)) (.cons_cons _ .slnil) .slnil)
  intro σ S v4405 hv4405 hk H; replace h := hOy4404
  refine KX.of_known hk <| KX.block_x <| KX.seq_n <| WC.seqR <| us 1 rfl <| w v4405 rfl rfl ?_
  obtain ⟨y4406, hy4406, h⟩ := bindS h
  refine cl (.agg (c_Api_Element y4406)) [(.int .u8 y3), v4405] rfl rfl rfl (fz_tmp' rfl (fz_tmp' hv4405.frz rfl)) (s12 _ hy4406 (by simp only [st_int, hv4405.strip, List.map_cons, List.map_nil, tupled] <;> rfl)) <| wos 0 H hi2 rfl rfl rfl rfl rfl rfl rfl rfl rfl rfl ?_
  intro S H
  replace H : Hp [] [] _ [(i2, .cells (c_Api_Element y4406))] [(v4405, 3)] [] := H
  refine WO.nil <| WC.ret <| KX.block_r <| KX.seq_r ?_
  have h := oi h; subst h
  refine KB.ret (vs := [(.agg (c_Api_Element y4406))]) (res_cell rfl (H.get 0 rfl) rfl res_nil) (fl_cons' rfl rfl) ?_
  exact (by simp only [st_tup, List.map_cons, List.map_nil, tupled, st_agg, st1_int, st1_str, strip1_enc, e_Api_Element_eq, c_Api_Element])
  refine WC.condF rfl hc4944 <| WC.seqR <| us 2 rfl <| WO.nil ?_
  rcases iteS h with ⟨hc4943, h⟩ | ⟨hc4943, h⟩
  refine WC.condT rfl hc4943 <| WC.seqR <| us 1 rfl <| WO.nil <| WC.seq <| WC.seqR <| us 1 rfl <| wg H 1 rfl rfl rfl rfl <| wl rfl rfl rfl <| us 1 rfl <| WO.nil ?_
  obtain ⟨y4933, hy4933, hOy4933⟩ := bindS h
  refine WC.block ?_
  have H := H.addNil 3
  refine l32_L3 ih hi2 hi1 ?_ hy4933 .nils ((isSl_nil _)) kn (hs H)
  intro σ S v4934 hv4934 hk H; replace h := hOy4933
  refine KX.of_known hk <| KX.block_x <| KX.seq_n <| WC.seqR <| us 2 rfl <| wg H 1 rfl rfl rfl rfl ?_
  obtain ⟨y4935, hy4935, h⟩ := bindS h
  refine cl (.agg (c_Api_Element y4935)) [(.int .u8 4), (.str a0.Attr)] rfl rfl rfl rfl (s13 _ hy4935 rfl) <| w v4934 rfl rfl ?_
  obtain ⟨y4936, hy4936, h⟩ := bindS h
  refine cl (.agg (c_Api_Element y4936)) [(.int .u8 48), v4934] rfl rfl rfl (fo rfl (fz_tmp' hv4934.frz rfl)) (s12 _ hy4936 (by simp only [st_int, hv4934.strip, List.map_cons, List.map_nil, tupled] <;> rfl)) <| WS rfl (nz rfl (stp_buildSlice (ys := [y4935, y4936]) (f := e_Api_Element) (parts := [(0, (.agg (c_Api_Element y4935))), (1, (.agg (c_Api_Element y4936)))]) rfl rfl rfl rfl rfl (by simp only [st_agg, List.map_cons, List.map_nil, st1_int, st1_str, strip1_enc, e_Api_Element_eq, tupled]) (fc ⟨rfl, rfl⟩ (fc ⟨rfl, rfl⟩ (fun p hp => nomatch hp))) rfl)) ?_
  have hv4937 : IsSl e_Api_Element (some [y4935, y4936]) _ := ⟨.full, rfl⟩
  obtain ⟨y4938, hy4938, h⟩ := bindS h
  refine cl (.agg (c_Api_Element y4938)) [(.int .u8 y3), (.lst (List.map e_Api_Element [y4935, y4936]) .full)] rfl rfl rfl (fz_tmp' rfl (fz_tmp' hv4937.frz rfl)) (s12 _ hy4938 (by simp only [st_int, hv4937.strip, st_lst, encSl_some, eI, eB, eS, List.map_cons, List.map_nil, tupled] <;> rfl)) <| wos 0 H hi2 rfl rfl rfl rfl rfl rfl rfl rfl rfl rfl ?_
  intro S H
  replace H : Hp [] [] _ [(i2, .cells (c_Api_Element y4938)), (i1, .cells (c_Api_Filter a0))] [(v4934, 3)] [] := H
  refine WO.nil <| WC.ret <| KX.block_r <| KX.seq_r ?_
  have h := oi h; subst h
  refine KB.ret (vs := [(.agg (c_Api_Element y4938))]) (res_cell rfl (H.get 0 rfl) rfl res_nil) (fl_cons' rfl rfl) ?_
  exact (by simp only [st_tup, List.map_cons, List.map_nil, tupled, st_agg, st1_int, st1_str, strip1_enc, e_Api_Element_eq, c_Api_Element])
  refine WC.condF rfl hc4943 <| WC.skip <| KX.block_n <| KX.seq_n <| WC.seq <| WC.draw <| wh (.int .u8 y3) rfl rfl <| wh (.ptr i1 1) rfl rfl <| WH.step (v := .str a0.Attr) rfl (nz rfl (stp_load rfl (H.get 1 rfl) rfl)) rfl rfl ?_
  obtain ⟨y4939, hy4939, h⟩ := bindS h
  refine WH.step (v := (.agg (c_Api_Element y4939))) rfl (nz rfl (stp_call (vs := [(.int .u8 4), (.str a0.Attr)]) rfl rfl (s13 _ hy4939 rfl _))) rfl rfl <| wh (.ptr i1 2) rfl rfl <| WH.step (v := .str a0.Value) rfl (nz rfl (stp_load rfl (H.get 1 rfl) rfl)) rfl rfl ?_
  obtain ⟨y4940, hy4940, h⟩ := bindS h
  refine WH.step (v := (.agg (c_Api_Element y4940))) rfl (nz rfl (stp_call (vs := [(.int .u8 4), (.str a0.Value)]) rfl rfl (s13 _ hy4940 rfl _))) rfl rfl <| WH.step rfl (nz rfl (stp_buildSlice (ys := [y4939, y4940]) (f := e_Api_Element) (parts := [(0, (.agg (c_Api_Element y4939))), (1, (.agg (c_Api_Element y4940)))]) rfl rfl rfl rfl rfl (by simp only [st_agg, List.map_cons, List.map_nil, st1_int, st1_str, strip1_enc, e_Api_Element_eq, tupled]) (fc ⟨rfl, rfl⟩ (fc ⟨rfl, rfl⟩ (fun p hp => nomatch hp))) rfl)) rfl rfl ?_
  have hv4941 : IsSl e_Api_Element (some [y4939, y4940]) _ := ⟨.full, rfl⟩
  refine WH.nil ?_
  obtain ⟨y4942, hy4942, h⟩ := bindS h
  refine cl (.agg (c_Api_Element y4942)) [(.int .u8 y3), (.lst (List.map e_Api_Element [y4939, y4940]) .full)] rfl rfl rfl (fz_tmp' rfl (fz_tmp' hv4941.frz rfl)) (s12 _ hy4942 (by simp only [st_int, hv4941.strip, st_lst, encSl_some, eI, eB, eS, List.map_cons, List.map_nil, tupled] <;> rfl)) <| wos 0 H hi2 rfl rfl rfl rfl rfl rfl rfl rfl rfl rfl ?_
  intro S H
  replace H : Hp [] [] _ [(i2, .cells (c_Api_Element y4942)), (i1, .cells (c_Api_Filter a0))] [] [] := H
  refine WO.nil <| KX.seq_n <| WC.ret ?_
  have h := oi h; subst h
  refine KB.ret (vs := [(.agg (c_Api_Element y4942))]) (res_cell rfl (H.get 0 rfl) rfl res_nil) (fl_cons' rfl rfl) ?_
  exact (by simp only [st_tup, List.map_cons, List.map_nil, tupled, st_agg, st1_int, st1_str, strip1_enc, e_Api_Element_eq, c_Api_Element])
def F51_L0 (k : Nat) (a48 : Str) (a51 : Sl Str) (a52 : Int) (a54 : Api_Element) : Nat → (Sl Api_Element) → Int → Option ((Sl Api_Element) × Int)
 | 0, _, _ => none
 | n + 1, x49, x53 =>
  if decide (x53 < a52) then
  Option.bind (Sl.at? a51 x53) fun y61 =>
  Option.bind (F13 k 4 y61) fun y62 =>
  Option.bind (Sl.app? 48 x49 (Sl.l (some [y62]))) fun z64 =>
  F51_L0 k a48 a51 a52 a54 n z64 (ad .i64 x53 1)
  else
  some (x49, x53)
def F51 (k : Nat) (a0 : Str) (a1 : Sl Str) : Option Api_Element :=
 Option.bind (F51_L0 k a0 a1 (Sl.len a1) (Api_Element.mk 0 [] none) k none 0) fun y68 =>
 Option.bind (F13 k 4 a0) fun y70 =>
 Option.bind (F12 k 49 y68.1) fun y71 =>
 Option.bind (F12 k 48 (some [y70, y71])) fun y73 =>
 some y73
theorem l51_L0 {k : Nat} {a48 : Str} {a51 : Sl Str} {a52 : Int} {a54 : Api_Element} {S0 : List SObj} {R : List Nat} {K : KX} {i1 : Nat} (hi1 : S0.length ≤ i1)  {o : ((Sl Api_Element) × Int)}
  (hbrk : ∀ {σ' : Nat → PV} {S' : List SObj}, ∀ (v67 : PV) (_ : IsSl e_Api_Element o.1 v67), Known [(0, (.str a48)), (4, (.ptr i1 0)), (5, v67)] σ' → Hp S0 R S' [(i1, .cells [(.int .u8 a54.Tag), (.str a54.Body), .nils])] [(v67, 3)] [] → K (.exit 0) σ' S' false) :
  ∀ {n : Nat} {x49 : Sl Api_Element} {x53 : Int}, F51_L0 k a48 a51 a52 a54 n x49 x53 = some o → ∀ {σ : Nat → PV} {S : List SObj}, ∀ (v50 : PV) (_ : IsSl e_Api_Element x49 v50), Known [(0, (.str a48)), (4, (.ptr i1 0)), (5, v50), (8, (encSl eS a51)), (9, (.int .i64 a52)), (10, (.int .i64 x53))] σ → Hp S0 R S [(i1, .cells [(.int .u8 a54.Tag), (.str a54.Body), .nils])] [(v50, 3)] [] → WC env ⟨26, S0.length⟩ (.loop pc51L0) σ S false K := by
 intro n
 induction n with
 | zero => intro _ _ h; cases h
 | succ n ih =>
  intro x49 x53 h σ S v50 hv50 hk H
  rw [F51_L0] at h
  refine WC.loop <| WC.of_known hk <| WC.seqR <| us 1 rfl <| WO.nil <| WC.seq ?_
  rcases iteS h with ⟨hc66, h⟩ | ⟨hc66, h⟩
  refine WC.condT rfl hc66 <| WC.skip <| KX.seq_n <| WC.seq <| WC.block <| WC.seqR ?_
  obtain ⟨y61, hy61, h⟩ := bindS h
  refine w (.iptr [(.str y61)] 0) rfl (nz rfl (stp_idxAddr rfl (isSl_enc _ _) rfl rfl rfl hy61 rfl rfl)) <| us 2 rfl <| WO.nil <| WC.region <| w v50 rfl rfl <| us 1 rfl ?_
  obtain ⟨y62, hy62, h⟩ := bindS h
  refine cl (.agg (c_Api_Element y62)) [(.int .u8 4), (.str y61)] rfl rfl rfl rfl (s13 _ hy62 rfl) <| WS rfl (nz rfl (stp_buildSlice (ys := [y62]) (f := e_Api_Element) (parts := [(0, (.agg (c_Api_Element y62)))]) rfl rfl rfl rfl rfl (by simp only [st_agg, List.map_cons, List.map_nil, st1_int, st1_str, strip1_enc, e_Api_Element_eq, tupled]) (fc ⟨rfl, rfl⟩ (fun p hp => nomatch hp)) rfl)) ?_
  have hv63 : IsSl e_Api_Element (some [y62]) _ := ⟨.full, rfl⟩
  obtain ⟨z64, hz64, h⟩ := bindS h
  refine WO.ex rfl (nzx (fz_tmp' hv63.frz rfl) (stp_app (f := e_Api_Element) (ei := ty44) H 0 rfl rfl hv50 rfl hv63 rfl rfl rfl rfl (fun a => (e_Api_Element_one a).2.1) hz64)) ?_
  rintro v65 S ⟨hv65, H⟩
  replace H : Hp S0 R _ [(i1, .cells [(.int .u8 a54.Tag), (.str a54.Body), .nils])] [(v65, 3)] [] := H
  refine w v65 rfl rfl <| WO.nil <| KX.block_n <| KX.seq_n <| WC.region <| us 2 rfl <| WO.nil <| KX.seq_n ?_
  exact ih h v65 (hv65) kn (hs H)
  refine WC.condF rfl hc66 <| WC.exit <| KX.seq_x <| KX.seq_x ?_
  have h := oi h; subst h
  exact hbrk v50 (hv50) kn (hs H)
theorem s51 : ∀ k : Nat, ∀ {a0 : Str} {a1 : Sl Str} {r : Api_Element}, F51 k a0 a1 = some r → Q 51 [(.str a0), (encSl eS a1)] (.agg (c_Api_Element r)) := by
 intro k a0 a1 r h vs ha S
 unfold F51 at h
 refine evw_pureW (pf := fn51) rfl rfl ha (Nat.le_of_ble_eq_true rfl) (by simp [PV.clean, cleanL, clean_encSl clean_eS]) (by simp [PV.clean, cleanL, clean_encSl clean_Api_Element]) ?_
 refine WB.of (pf := fn51) rfl ?_
 have H := Hp.start []
 refine WC.seqR <| WO.alloc' (ti := ty44) rfl rfl rfl rfl H ?_
 intro i1 S hi1 H
 refine WO.nil <| WC.seqR <| us 1 rfl <| WO.nil <| WC.seq <| WC.seqR <| us 1 rfl <| wl rfl rfl rfl <| us 1 rfl <| WO.nil ?_
 obtain ⟨y68, hy68, hOy68⟩ := bindS h
 refine WC.block ?_
 have H := H.addNil 3
 refine l51_L0 hi1 ?_ hy68 .nils ((isSl_nil _)) kn (hs H)
 intro σ S v69 hv69 hk H; replace h := hOy68
 refine KX.of_known hk <| KX.block_x <| KX.seq_n <| WC.seqR <| us 1 rfl ?_
 obtain ⟨y70, hy70, h⟩ := bindS h
 refine cl (.agg (c_Api_Element y70)) [(.int .u8 4), (.str a0)] rfl rfl rfl rfl (s13 _ hy70 rfl) <| w v69 rfl rfl ?_
 obtain ⟨y71, hy71, h⟩ := bindS h
 refine cl (.agg (c_Api_Element y71)) [(.int .u8 49), v69] rfl rfl rfl (fo rfl (fz_tmp' hv69.frz rfl)) (s12 _ hy71 (by simp only [st_int, hv69.strip, List.map_cons, List.map_nil, tupled] <;> rfl)) <| WS rfl (nz rfl (stp_buildSlice (ys := [y70, y71]) (f := e_Api_Element) (parts := [(0, (.agg (c_Api_Element y70))), (1, (.agg (c_Api_Element y71)))]) rfl rfl rfl rfl rfl (by simp only [st_agg, List.map_cons, List.map_nil, st1_int, st1_str, strip1_enc, e_Api_Element_eq, tupled]) (fc ⟨rfl, rfl⟩ (fc ⟨rfl, rfl⟩ (fun p hp => nomatch hp))) rfl)) ?_
 have hv72 : IsSl e_Api_Element (some [y70, y71]) _ := ⟨.full, rfl⟩
 obtain ⟨y73, hy73, h⟩ := bindS h
 refine cl (.agg (c_Api_Element y73)) [(.int .u8 48), (.lst (List.map e_Api_Element [y70, y71]) .full)] rfl rfl rfl (fo rfl (fz_tmp' hv72.frz rfl)) (s12 _ hy73 (by simp only [st_int, hv72.strip, st_lst, encSl_some, eI, eB, eS, List.map_cons, List.map_nil, tupled] <;> rfl)) <| wos 0 H hi1 rfl rfl rfl rfl rfl rfl rfl rfl rfl rfl ?_
 intro S H
 replace H : Hp [] [] _ [(i1, .cells (c_Api_Element y73))] [(v69, 3)] [] := H
 refine WO.nil <| WC.ret ?_
 have h := oi h; subst h
 refine KB.ret (vs := [(.agg (c_Api_Element y73))]) (res_cell rfl (H.get 0 rfl) rfl res_nil) (fl_cons' rfl rfl) ?_
 exact (by simp only [st_tup, List.map_cons, List.map_nil, tupled, st_agg, st1_int, st1_str, strip1_enc, e_Api_Element_eq, c_Api_Element])
def F33_L0 (k : Nat) (a123 : Bool) (a126 : Sl Api_Mod) (a127 : Int) (a129 : Api_Element) : Nat → (Sl Api_Element) → Int → Option ((Sl Api_Element) × Int)
 | 0, _, _ => none
 | n + 1, x124, x128 =>
  if decide (x128 < a127) then
  Option.bind (Sl.at? a126 x128) fun y151 =>
  Option.bind (F51 k y151.Attr y151.Values) fun y153 =>
  Option.bind (if a123 then
  Option.bind (F15 k 10 (sb .i64 y151.Kind 1)) fun y164 =>
  Option.bind (F12 k 48 (some [y164, y153])) fun y166 =>
  some y166
  else
  some y153) fun y163 =>
  Option.bind (Sl.app? 48 x124 (Sl.l (some [y163]))) fun z169 =>
  F33_L0 k a123 a126 a127 a129 n z169 (ad .i64 x128 1)
  else
  some (x124, x128)
def F33 (k : Nat) (a0 : Sl Api_Mod) (a1 : Bool) : Option Api_Element :=
 Option.bind (F33_L0 k a1 a0 (Sl.len a0) (Api_Element.mk 0 [] none) k none 0) fun y173 =>
 Option.bind (F12 k 48 y173.1) fun y175 =>
 some y175
theorem l33_L0 {k : Nat} {a123 : Bool} {a126 : Sl Api_Mod} {a127 : Int} {a129 : Api_Element} {S0 : List SObj} {R : List Nat} {K : KX} {i1 : Nat} (hi1 : S0.length ≤ i1)  {o : ((Sl Api_Element) × Int)}
  (hbrk : ∀ {σ' : Nat → PV} {S' : List SObj}, ∀ (v172 : PV) (_ : IsSl e_Api_Element o.1 v172), Known [(4, (.ptr i1 0)), (5, v172)] σ' → Hp S0 R S' [(i1, .cells [(.int .u8 a129.Tag), (.str a129.Body), .nils])] [(v172, 3)] [] → K (.exit 0) σ' S' false) :
  ∀ {n : Nat} {x124 : Sl Api_Element} {x128 : Int}, F33_L0 k a123 a126 a127 a129 n x124 x128 = some o → ∀ {σ : Nat → PV} {S : List SObj}, ∀ (v125 : PV) (_ : IsSl e_Api_Element x124 v125), Known [(1, (.bool a123)), (4, (.ptr i1 0)), (5, v125), (9, (encSl e_Api_Mod a126)), (10, (.int .i64 a127)), (11, (.int .i64 x128))] σ → Hp S0 R S [(i1, .cells [(.int .u8 a129.Tag), (.str a129.Body), .nils])] [(v125, 3)] [] → WC env ⟨35, S0.length⟩ (.loop pc33L0) σ S false K := by
 intro n
 induction n with
 | zero => intro _ _ h; cases h
 | succ n ih =>
  intro x124 x128 h σ S v125 hv125 hk H
  rw [F33_L0] at h
  refine WC.loop <| WC.of_known hk <| WC.seqR <| us 1 rfl <| WO.nil <| WC.seq ?_
  rcases iteS h with ⟨hc171, h⟩ | ⟨hc171, h⟩
  refine WC.condT rfl hc171 <| WC.skip <| KX.seq_n <| WC.seq <| WC.block <| WC.seqR ?_
  obtain ⟨y151, hy151, h⟩ := bindS h
  refine w (.iptr (c_Api_Mod y151) 0) rfl (nz rfl (stp_idxAddr rfl (isSl_enc _ _) rfl rfl rfl hy151 (e_Api_Mod_cells _) rfl)) <| us 1 rfl <| WO.alloc' (ti := ty66) rfl rfl rfl rfl H ?_
  intro i152 S hi152 H
  refine wos 0 H hi152 rfl rfl rfl rfl rfl rfl rfl rfl rfl rfl ?_
  intro S H
  refine WO.nil <| WC.seqR <| us 1 rfl <| wg H 0 rfl rfl rfl rfl <| us 1 rfl <| wg H 0 rfl rfl rfl rfl ?_
  obtain ⟨y153, hy153, h⟩ := bindS h
  refine cl (.agg (c_Api_Element y153)) [(.str y151.Attr), (encSl eS y151.Values)] rfl rfl rfl (fz_tmp' rfl (fe rfl rfl)) (sv (s51 _ hy153)) <| WO.alloc' (ti := ty44) rfl rfl rfl rfl H ?_
  intro i154 S hi154 H
  refine wos 0 H hi154 rfl rfl rfl rfl rfl rfl rfl rfl rfl rfl ?_
  intro S H
  replace H : Hp S0 R _ [(i154, .cells (c_Api_Element y153)), (i152, .cells (c_Api_Mod y151)), (i1, .cells [(.int .u8 a129.Tag), (.str a129.Body), .nils])] [(v125, 3)] [] := H
  refine WO.nil <| WC.seq <| WC.seqR <| us 1 rfl <| WO.nil ?_
  obtain ⟨y163, hy163, hOy163⟩ := bindS h
  refine WC.join (SJ [(1, (.bool a123)), (4, (.ptr i1 0)), (5, v125), (8, (.ptr i154 0)), (9, (encSl e_Api_Mod a126)), (10, (.int .i64 a127)), (11, (.int .i64 x128))] S0 R [(i154, .cells (c_Api_Element y163)), (i152, .cells (c_Api_Mod y151)), (i1, .cells [(.int .u8 a129.Tag), (.str a129.Body), .nils])] [(v125, 3)] [] false) ?_ ?_
  replace h := hy163
  rcases iteS h with ⟨hc167, h⟩ | ⟨hc167, h⟩
  refine WC.condT rfl hc167 <| WC.draw <| wh (.ptr i152 0) rfl rfl <| WH.step (v := .int .i64 y151.Kind) rfl (nz rfl (stp_load rfl (H.get 1 rfl) rfl)) rfl rfl <| wh (.int .i64 (sb .i64 y151.Kind 1)) rfl rfl ?_
  obtain ⟨y164, hy164, h⟩ := bindS h
  refine WH.step (v := (.agg (c_Api_Element y164))) rfl (nz rfl (stp_call (vs := [(.int .u8 10), (.int .i64 (sb .i64 y151.Kind 1))]) rfl rfl (s15 _ hy164 rfl _))) rfl rfl <| WH.step (v := (.agg (c_Api_Element y153))) rfl (nz rfl (stp_load rfl (H.get 0 rfl) rfl)) rfl rfl <| WH.nil <| WS rfl (nz rfl (stp_buildSlice (ys := [y164, y153]) (f := e_Api_Element) (parts := [(0, (.agg (c_Api_Element y164))), (1, (.agg (c_Api_Element y153)))]) rfl rfl rfl rfl rfl (by simp only [st_agg, List.map_cons, List.map_nil, st1_int, st1_str, strip1_enc, e_Api_Element_eq, tupled]) (fc ⟨rfl, rfl⟩ (fc ⟨rfl, rfl⟩ (fun p hp => nomatch hp))) rfl)) ?_
  have hv165 : IsSl e_Api_Element (some [y164, y153]) _ := ⟨.full, rfl⟩
  obtain ⟨y166, hy166, h⟩ := bindS h
  refine cl (.agg (c_Api_Element y166)) [(.int .u8 48), (.lst (List.map e_Api_Element [y164, y153]) .full)] rfl rfl rfl (fo rfl (fz_tmp' hv165.frz rfl)) (s12 _ hy166 (by simp only [st_int, hv165.strip, st_lst, encSl_some, eI, eB, eS, List.map_cons, List.map_nil, tupled] <;> rfl)) <| wos 0 H hi154 rfl rfl rfl rfl rfl rfl rfl rfl rfl rfl ?_
  intro S H
  replace H : Hp S0 R _ [(i154, .cells (c_Api_Element y166)), (i152, .cells (c_Api_Mod y151)), (i1, .cells [(.int .u8 a129.Tag), (.str a129.Body), .nils])] [(v125, 3)] [] := H
  refine WO.nil <| KX.seq_n ?_
  have h := oi h; subst h
  exact kh H
  refine WC.condF rfl hc167 <| WC.skip <| KX.seq_n ?_
  have h := oi h; subst h
  exact kh H
  rintro σ S e ⟨hk, H, rfl⟩
  replace h := hOy163
  refine KX.of_known hk <| KX.seq_n <| WC.region <| w v125 rfl rfl <| wg H 0 rfl rfl rfl rfl <| WS rfl (nz rfl (stp_buildSlice (ys := [y163]) (f := e_Api_Element) (parts := [(0, (.agg (c_Api_Element y163)))]) rfl rfl rfl rfl rfl (by simp only [st_agg, List.map_cons, List.map_nil, st1_int, st1_str, strip1_enc, e_Api_Element_eq, tupled]) (fc ⟨rfl, rfl⟩ (fun p hp => nomatch hp)) rfl)) ?_
  have hv168 : IsSl e_Api_Element (some [y163]) _ := ⟨.full, rfl⟩
  obtain ⟨z169, hz169, h⟩ := bindS h
  refine WO.ex rfl (nzx (fz_tmp' hv168.frz rfl) (stp_app (f := e_Api_Element) (ei := ty44) H 0 rfl rfl hv125 rfl hv168 rfl rfl rfl rfl (fun a => (e_Api_Element_one a).2.1) hz169)) ?_
  rintro v170 S ⟨hv170, H⟩
  replace H : Hp S0 R _ [(i154, .cells (c_Api_Element y163)), (i152, .cells (c_Api_Mod y151)), (i1, .cells [(.int .u8 a129.Tag), (.str a129.Body), .nils])] [(v170, 3)] [] := H
  refine w v170 rfl rfl <| WO.nil <| KX.block_n <| KX.seq_n <| WC.region <| us 2 rfl <| WO.nil <| KX.seq_n ?_
  exact ih h v170 (hv170) kn (H.sub (.cons _ (.cons _ (.cons_cons _ .slnil))) (.cons_cons _ .slnil) .slnil)
  refine WC.condF rfl hc171 <| WC.exit <| KX.seq_x <| KX.seq_x ?_
  have h := oi h; subst h
  exact hbrk v125 (hv125) kn (hs H)
theorem s33 : ∀ k : Nat, ∀ {a0 : Sl Api_Mod} {a1 : Bool} {r : Api_Element}, F33 k a0 a1 = some r → Q 33 [(encSl e_Api_Mod a0), (.bool a1)] (.agg (c_Api_Element r)) := by
 intro k a0 a1 r h vs ha S
 unfold F33 at h
 refine evw_pureW (pf := fn33) rfl rfl ha (Nat.le_of_ble_eq_true rfl) (by simp [PV.clean, cleanL, clean_encSl clean_Api_Mod]) (by simp [PV.clean, cleanL, clean_encSl clean_Api_Element]) ?_
 refine WB.of (pf := fn33) rfl ?_
 have H := Hp.start []
 refine WC.seqR <| WO.alloc' (ti := ty44) rfl rfl rfl rfl H ?_
 intro i1 S hi1 H
 refine WO.nil <| WC.seqR <| us 1 rfl <| WO.nil <| WC.seq <| WC.seqR <| us 1 rfl <| wl rfl rfl rfl <| us 1 rfl <| WO.nil ?_
 obtain ⟨y173, hy173, hOy173⟩ := bindS h
 refine WC.block ?_
 have H := H.addNil 3
 refine l33_L0 hi1 ?_ hy173 .nils ((isSl_nil _)) kn (hs H)
 intro σ S v174 hv174 hk H; replace h := hOy173
 refine KX.of_known hk <| KX.block_x <| KX.seq_n <| WC.seqR <| w v174 rfl rfl ?_
 obtain ⟨y175, hy175, h⟩ := bindS h
 refine cl (.agg (c_Api_Element y175)) [(.int .u8 48), v174] rfl rfl rfl (fo rfl (fz_tmp' hv174.frz rfl)) (s12 _ hy175 (by simp only [st_int, hv174.strip, List.map_cons, List.map_nil, tupled] <;> rfl)) <| wos 0 H hi1 rfl rfl rfl rfl rfl rfl rfl rfl rfl rfl ?_
 intro S H
 replace H : Hp [] [] _ [(i1, .cells (c_Api_Element y175))] [(v174, 3)] [] := H
 refine WO.nil <| WC.ret ?_
 have h := oi h; subst h
 refine KB.ret (vs := [(.agg (c_Api_Element y175))]) (res_cell rfl (H.get 0 rfl) rfl res_nil) (fl_cons' rfl rfl) ?_
 exact (by simp only [st_tup, List.map_cons, List.map_nil, tupled, st_agg, st1_int, st1_str, strip1_enc, e_Api_Element_eq, c_Api_Element])
def F14_L1 (k : Nat) (a1753 : Sl Str) (a1754 : Int) (a1756 : Api_Msg) : Nat → (Sl Api_Element) → Int → Option ((Sl Api_Element) × Int)
 | 0, _, _ => none
 | n + 1, x1751, x1755 =>
  if decide (x1755 < a1754) then
  Option.bind (Sl.at? a1753 x1755) fun y1763 =>
  Option.bind (F13 k 4 y1763) fun y1764 =>
  Option.bind (Sl.app? 48 x1751 (Sl.l (some [y1764]))) fun z1766 =>
  F14_L1 k a1753 a1754 a1756 n z1766 (ad .i64 x1755 1)
  else
  some (x1751, x1755)
def F14 (k : Nat) (a0 : Api_Msg) : Option (Sl Api_Element) :=
 if a0.Op == 1 then
 Option.bind (F15 k 2 a0.Version) fun y1463 =>
 Option.bind (F13 k 4 a0.DN) fun y1464 =>
 Option.bind (F13 k 128 a0.Pass) fun y1465 =>
 some (some [y1463, y1464, y1465])
 else
 if a0.Op == 3 then
 Option.bind (F14_L1 k a0.Wants (Sl.len a0.Wants) a0 k none 0) fun y1770 =>
 Option.bind (F13 k 4 a0.DN) fun y1772 =>
 Option.bind (F15 k 10 a0.Scope) fun y1773 =>
 Option.bind (F15 k 10 0) fun y1774 =>
 Option.bind (F15 k 2 a0.Size) fun y1775 =>
 Option.bind (F15 k 2 0) fun y1776 =>
 Option.bind (F31 k false) fun y1777 =>
 Option.bind (F32 k a0.Filter) fun y1778 =>
 Option.bind (F12 k 48 y1770.1) fun y1779 =>
 some (some [y1772, y1773, y1774, y1775, y1776, y1777, y1778, y1779])
 else
 Option.bind (if a0.Op == 4 then
 some (a0.Op == 4)
 else
 Option.bind (if a0.Op == 5 then
 some (a0.Op == 5)
 else
 some (a0.Op == 10)) fun y1794 =>
 some y1794) fun y1791 =>
 if y1791 then
 Option.bind (F13 k 4 a0.DN) fun y1873 =>
 Option.bind (F33 k a0.Mods (a0.Op == 4)) fun y1874 =>
 some (some [y1873, y1874])
 else
 if a0.Op == 7 then
 Option.bind (F13 k 4 a0.DN) fun y1912 =>
 Option.bind (F13 k 4 a0.RDN) fun y1913 =>
 Option.bind (F31 k a0.DelOld) fun y1914 =>
 Option.bind (if a0.HasSup then
 Option.bind (F13 k 128 a0.Sup) fun y1928 =>
 Option.bind (Sl.app? 48 (some [y1912, y1913, y1914]) (Sl.l (some [y1928]))) fun z1930 =>
 some z1930
 else
 some (some [y1912, y1913, y1914])) fun y1926 =>
 some y1926
 else
 if a0.Op == 8 then
 Option.bind (F13 k 4 a0.DN) fun y1940 =>
 Option.bind (F13 k 4 a0.Attr) fun y1941 =>
 Option.bind (F13 k 4 a0.Value) fun y1942 =>
 Option.bind (F12 k 48 (some [y1941, y1942])) fun y1944 =>
 some (some [y1940, y1944])
 else
 Option.bind (F15 k 10 a0.Code) fun y1946 =>
 Option.bind (F13 k 4 a0.Matched) fun y1947 =>
 Option.bind (F13 k 4 []) fun y1948 =>
 some (some [y1946, y1947, y1948])
theorem l14_L1 {k : Nat} {a1753 : Sl Str} {a1754 : Int} {a1756 : Api_Msg} {S0 : List SObj} {R : List Nat} {K : KX} {i1 : Nat} (hi1 : S0.length ≤ i1)  {o : ((Sl Api_Element) × Int)}
  (hbrk : ∀ {σ' : Nat → PV} {S' : List SObj}, ∀ (v1769 : PV) (_ : IsSl e_Api_Element o.1 v1769), Known [(1, (.ptr i1 0)), (3, v1769)] σ' → Hp S0 R S' [(i1, .cells (c_Api_Msg a1756))] [(v1769, 3)] [] → K (.exit 1) σ' S' false) :
  ∀ {n : Nat} {x1751 : Sl Api_Element} {x1755 : Int}, F14_L1 k a1753 a1754 a1756 n x1751 x1755 = some o → ∀ {σ : Nat → PV} {S : List SObj}, ∀ (v1752 : PV) (_ : IsSl e_Api_Element x1751 v1752), Known [(1, (.ptr i1 0)), (3, v1752), (24, (encSl eS a1753)), (25, (.int .i64 a1754)), (26, (.int .i64 x1755))] σ → Hp S0 R S [(i1, .cells (c_Api_Msg a1756))] [(v1752, 3)] [] → WC env ⟨111, S0.length⟩ (.loop pc14L1) σ S false K := by
 intro n
 induction n with
 | zero => intro _ _ h; cases h
 | succ n ih =>
  intro x1751 x1755 h σ S v1752 hv1752 hk H
  rw [F14_L1] at h
  refine WC.loop <| WC.of_known hk <| WC.seqR <| us 1 rfl <| WO.nil <| WC.seq ?_
  rcases iteS h with ⟨hc1768, h⟩ | ⟨hc1768, h⟩
  refine WC.condT rfl hc1768 <| WC.skip <| KX.seq_n <| WC.seq <| WC.block <| WC.seqR ?_
  obtain ⟨y1763, hy1763, h⟩ := bindS h
  refine w (.iptr [(.str y1763)] 0) rfl (nz rfl (stp_idxAddr rfl (isSl_enc _ _) rfl rfl rfl hy1763 rfl rfl)) <| us 2 rfl <| WO.nil <| WC.region <| w v1752 rfl rfl <| us 1 rfl ?_
  obtain ⟨y1764, hy1764, h⟩ := bindS h
  refine cl (.agg (c_Api_Element y1764)) [(.int .u8 4), (.str y1763)] rfl rfl rfl rfl (s13 _ hy1764 rfl) <| WS rfl (nz rfl (stp_buildSlice (ys := [y1764]) (f := e_Api_Element) (parts := [(0, (.agg (c_Api_Element y1764)))]) rfl rfl rfl rfl rfl (by simp only [st_agg, List.map_cons, List.map_nil, st1_int, st1_str, strip1_enc, e_Api_Element_eq, tupled]) (fc ⟨rfl, rfl⟩ (fun p hp => nomatch hp)) rfl)) ?_
  have hv1765 : IsSl e_Api_Element (some [y1764]) _ := ⟨.full, rfl⟩
  obtain ⟨z1766, hz1766, h⟩ := bindS h
  refine WO.ex rfl (nzx (fz_tmp' hv1765.frz rfl) (stp_app (f := e_Api_Element) (ei := ty44) H 0 rfl rfl hv1752 rfl hv1765 rfl rfl rfl rfl (fun a => (e_Api_Element_one a).2.1) hz1766)) ?_
  rintro v1767 S ⟨hv1767, H⟩
  replace H : Hp S0 R _ [(i1, .cells (c_Api_Msg a1756))] [(v1767, 3)] [] := H
  refine w v1767 rfl rfl <| WO.nil <| KX.block_n <| KX.seq_n <| WC.region <| us 2 rfl <| WO.nil <| KX.seq_n ?_
  exact ih h v1767 (hv1767) kn (hs H)
  refine WC.condF rfl hc1768 <| WC.exit <| KX.seq_x <| KX.seq_x ?_
  have h := oi h; subst h
  exact hbrk v1752 (hv1752) kn (hs H)
theorem s14 : ∀ k : Nat, ∀ {a0 : Api_Msg} {r : (Sl Api_Element)}, F14 k a0 = some r → Q 14 [(.agg (c_Api_Msg a0))] (encSl e_Api_Element r) := by
 intro k a0 r h vs ha S
 unfold F14 at h
 refine evw_pureW (pf := fn14) rfl rfl ha (Nat.le_of_ble_eq_true rfl) (by simp [PV.clean, cleanL, clean_encSl clean_Api_Filter, clean_encSl clean_Api_Mod, clean_encSl clean_eS]) (by simp [PV.clean, cleanL, clean_encSl clean_Api_Element]) ?_
 refine WB.of (pf := fn14) rfl ?_
 have H := Hp.start []
 refine WC.seqR <| WO.box' rfl rfl rfl rfl rfl H ?_
 intro i1 S hi1 H
 refine us 1 rfl <| WO.nil <| WC.seq <| WC.seqR <| us 1 rfl <| wg H 0 rfl rfl rfl rfl <| WO.nil <| WC.block <| WC.seqR <| us 2 rfl <| WO.nil ?_
 rcases iteS h with ⟨hc1954, h⟩ | ⟨hc1954, h⟩
 refine WC.condT rfl hc1954 <| WC.seq <| WC.draw <| wh (.ptr i1 4) rfl rfl <| WH.step (v := .int .i64 a0.Version) rfl (nz rfl (stp_load rfl (H.get 0 rfl) rfl)) rfl rfl ?_
 obtain ⟨y1463, hy1463, h⟩ := bindS h
 refine WH.step (v := (.agg (c_Api_Element y1463))) rfl (nz rfl (stp_call (vs := [(.int .u8 2), (.int .i64 a0.Version)]) rfl rfl (s15 _ hy1463 rfl _))) rfl rfl <| wh (.ptr i1 3) rfl rfl <| WH.step (v := .str a0.DN) rfl (nz rfl (stp_load rfl (H.get 0 rfl) rfl)) rfl rfl ?_
 obtain ⟨y1464, hy1464, h⟩ := bindS h
 refine WH.step (v := (.agg (c_Api_Element y1464))) rfl (nz rfl (stp_call (vs := [(.int .u8 4), (.str a0.DN)]) rfl rfl (s13 _ hy1464 rfl _))) rfl rfl <| wh (.ptr i1 5) rfl rfl <| WH.step (v := .str a0.Pass) rfl (nz rfl (stp_load rfl (H.get 0 rfl) rfl)) rfl rfl <| WH.nil ?_
 obtain ⟨y1465, hy1465, h⟩ := bindS h
 refine cl (.agg (c_Api_Element y1465)) [(.int .u8 128), (.str a0.Pass)] rfl rfl rfl rfl (s13 _ hy1465 rfl) <| WS rfl (nz rfl (stp_buildSlice (ys := [y1463, y1464, y1465]) (f := e_Api_Element) (parts := [(0, (.agg (c_Api_Element y1463))), (1, (.agg (c_Api_Element y1464))), (2, (.agg (c_Api_Element y1465)))]) rfl rfl rfl rfl rfl (by simp only [st_agg, List.map_cons, List.map_nil, st1_int, st1_str, strip1_enc, e_Api_Element_eq, tupled]) (fc ⟨rfl, rfl⟩ (fc ⟨rfl, rfl⟩ (fc ⟨rfl, rfl⟩ (fun p hp => nomatch hp)))) rfl)) ?_
 have hv1466 : IsSl e_Api_Element (some [y1463, y1464, y1465]) _ := ⟨.full, rfl⟩
 refine us 1 rfl <| WO.nil <| KX.seq_n <| WC.ret <| KX.block_r <| KX.seq_r ?_
 have h := oi h; subst h
 refine KB.ret (vs := [(.lst (List.map e_Api_Element [y1463, y1464, y1465]) .full)]) (res_tmp rfl res_nil) (fl_cons' hv1466.frz rfl) ?_
 exact (by simp only [st_tup, List.map_cons, List.map_nil, tupled, hv1466.strip, st_lst, encSl_some, eI, eB, eS])
 refine WC.condF rfl hc1954 <| WC.seqR <| us 2 rfl <| WO.nil ?_
 rcases iteS h with ⟨hc1953, h⟩ | ⟨hc1953, h⟩
 refine WC.condT rfl hc1953 <| WC.seqR <| us 1 rfl <| WO.nil <| WC.seq <| WC.seqR <| us 1 rfl <| wg H 0 rfl rfl rfl rfl <| wl rfl rfl rfl <| us 1 rfl <| WO.nil ?_
 obtain ⟨y1770, hy1770, hOy1770⟩ := bindS h
 refine WC.block ?_
 have H := H.addNil 3
 refine l14_L1 hi1 ?_ hy1770 .nils ((isSl_nil _)) kn (hs H)
 intro σ S v1771 hv1771 hk H; replace h := hOy1770
 refine KX.of_known hk <| KX.block_x <| KX.seq_n <| WC.seq <| WC.draw <| wh (.ptr i1 3) rfl rfl <| WH.step (v := .str a0.DN) rfl (nz rfl (stp_load rfl (H.get 0 rfl) rfl)) rfl rfl ?_
 obtain ⟨y1772, hy1772, h⟩ := bindS h
 refine WH.step (v := (.agg (c_Api_Element y1772))) rfl (nz rfl (stp_call (vs := [(.int .u8 4), (.str a0.DN)]) rfl rfl (s13 _ hy1772 rfl _))) rfl rfl <| wh (.ptr i1 6) rfl rfl <| WH.step (v := .int .i64 a0.Scope) rfl (nz rfl (stp_load rfl (H.get 0 rfl) rfl)) rfl rfl ?_
 obtain ⟨y1773, hy1773, h⟩ := bindS h
 refine WH.step (v := (.agg (c_Api_Element y1773))) rfl (nz rfl (stp_call (vs := [(.int .u8 10), (.int .i64 a0.Scope)]) rfl rfl (s15 _ hy1773 rfl _))) rfl rfl ?_
 obtain ⟨y1774, hy1774, h⟩ := bindS h
 refine WH.step (v := (.agg (c_Api_Element y1774))) rfl (nz rfl (stp_call (vs := [(.int .u8 10), (.int .i64 0)]) rfl rfl (s15 _ hy1774 rfl _))) rfl rfl <| wh (.ptr i1 7) rfl rfl <| WH.step (v := .int .i64 a0.Size) rfl (nz rfl (stp_load rfl (H.get 0 rfl) rfl)) rfl rfl ?_
 obtain ⟨y1775, hy1775, h⟩ := bindS h
 refine WH.step (v := (.agg (c_Api_Element y1775))) rfl (nz rfl (stp_call (vs := [(.int .u8 2), (.int .i64 a0.Size)]) rfl rfl (s15 _ hy1775 rfl _))) rfl rfl ?_
 obtain ⟨y1776, hy1776, h⟩ := bindS h
 refine WH.step (v := (.agg (c_Api_Element y1776))) rfl (nz rfl (stp_call (vs := [(.int .u8 2), (.int .i64 0)]) rfl rfl (s15 _ hy1776 rfl _))) rfl rfl ?_
 obtain ⟨y1777, hy1777, h⟩ := bindS h
 refine WH.step (v := (.agg (c_Api_Element y1777))) rfl (nz rfl (stp_call (vs := [(.bool false)]) rfl rfl (s31 _ hy1777 rfl _))) rfl rfl <| wh (.ptr i1 8) rfl rfl <| WH.step (v := (.agg (c_Api_Filter a0.Filter))) rfl (nz rfl (stp_load rfl (H.get 0 rfl) rfl)) rfl rfl ?_
 obtain ⟨y1778, hy1778, h⟩ := bindS h
 refine WH.step (v := (.agg (c_Api_Element y1778))) rfl (nz rfl (stp_call (vs := [(.agg (c_Api_Filter a0.Filter))]) rfl rfl (s32 _ hy1778 (by simp only [st_agg, List.map_cons, List.map_nil, st1_int, st1_str, strip1_enc, e_Api_Filter_eq, tupled]) _))) rfl rfl <| wh (v1771) rfl rfl <| WH.nil ?_
 obtain ⟨y1779, hy1779, h⟩ := bindS h
 refine cl (.agg (c_Api_Element y1779)) [(.int .u8 48), v1771] rfl rfl rfl (fo rfl (fz_tmp' hv1771.frz rfl)) (s12 _ hy1779 (by simp only [st_int, hv1771.strip, List.map_cons, List.map_nil, tupled] <;> rfl)) <| WS rfl (nz rfl (stp_buildSlice (ys := [y1772, y1773, y1774, y1775, y1776, y1777, y1778, y1779]) (f := e_Api_Element) (parts := [(0, (.agg (c_Api_Element y1772))), (1, (.agg (c_Api_Element y1773))), (2, (.agg (c_Api_Element y1774))), (3, (.agg (c_Api_Element y1775))), (4, (.agg (c_Api_Element y1776))), (5, (.agg (c_Api_Element y1777))), (6, (.agg (c_Api_Element y1778))), (7, (.agg (c_Api_Element y1779)))]) rfl rfl rfl rfl rfl (by simp only [st_agg, List.map_cons, List.map_nil, st1_int, st1_str, strip1_enc, e_Api_Element_eq, tupled]) (fc ⟨rfl, rfl⟩ (fc ⟨rfl, rfl⟩ (fc ⟨rfl, rfl⟩ (fc ⟨rfl, rfl⟩ (fc ⟨rfl, rfl⟩ (fc ⟨rfl, rfl⟩ (fc ⟨rfl, rfl⟩ (fc ⟨rfl, rfl⟩ (fun p hp => nomatch hp))))))))) rfl)) ?_
 have hv1780 : IsSl e_Api_Element (some [y1772, y1773, y1774, y1775, y1776, y1777, y1778, y1779]) _ := ⟨.full, rfl⟩
 refine us 1 rfl <| WO.nil <| KX.seq_n <| WC.ret <| KX.block_r <| KX.seq_r ?_
 have h := oi h; subst h
 refine KB.ret (vs := [(.lst (List.map e_Api_Element [y1772, y1773, y1774, y1775, y1776, y1777, y1778, y1779]) .full)]) (res_tmp rfl res_nil) (fl_cons' hv1780.frz rfl) ?_
 exact (by simp only [st_tup, List.map_cons, List.map_nil, tupled, hv1780.strip, st_lst, encSl_some, eI, eB, eS])
 refine WC.condF rfl hc1953 <| WC.seq <| WC.seqR <| us 2 rfl <| WO.nil ?_
 obtain ⟨y1791, hy1791, hOy1791⟩ := bindS h
 refine WC.join (SJ [(1, (.ptr i1 0)), (8, (.int .i64 a0.Op)), (54, (.bool y1791))] [] [] [(i1, .cells (c_Api_Msg a0))] [] [] false) ?_ ?_
 replace h := hy1791
 rcases iteS h with ⟨hc1796, h⟩ | ⟨hc1796, h⟩
 refine WC.condT rfl hc1796 <| WC.skip <| KX.seq_n ?_
 have h := oi h; subst h
 exact kh H
 refine WC.condF rfl hc1796 <| WC.seqR <| us 2 rfl <| WO.nil ?_
 obtain ⟨y1794, hy1794, hOy1794⟩ := bindS h
 refine WC.join (SJ [(1, (.ptr i1 0)), (8, (.int .i64 a0.Op)), (54, (.bool y1794))] [] [] [(i1, .cells (c_Api_Msg a0))] [] [] false) ?_ ?_
 replace h := hy1794
 rcases iteS h with ⟨hc1795, h⟩ | ⟨hc1795, h⟩
 refine WC.condT rfl hc1795 <| WC.skip <| KX.seq_n ?_
 have h := oi h; subst h
 exact kh H
 refine WC.condF rfl hc1795 <| WC.region <| us 2 rfl <| WO.nil <| KX.seq_n ?_
 have h := oi h; subst h
 exact kh H
 rintro σ S e ⟨hk, H, rfl⟩
 replace h := hOy1794
 refine KX.of_known hk <| KX.seq_n ?_
 have h := oi h; subst h
 exact kh H
 rintro σ S e ⟨hk, H, rfl⟩
 replace h := hOy1791
 refine KX.of_known hk <| KX.seq_n ?_
 rcases iteS h with ⟨hc1952, h⟩ | ⟨hc1952, h⟩
 refine WC.condT rfl hc1952 <| WC.seq <| WC.draw <| wh (.ptr i1 3) rfl rfl <| WH.step (v := .str a0.DN) rfl (nz rfl (stp_load rfl (H.get 0 rfl) rfl)) rfl rfl ?_
 obtain ⟨y1873, hy1873, h⟩ := bindS h
 refine WH.step (v := (.agg (c_Api_Element y1873))) rfl (nz rfl (stp_call (vs := [(.int .u8 4), (.str a0.DN)]) rfl rfl (s13 _ hy1873 rfl _))) rfl rfl <| wh (.ptr i1 14) rfl rfl <| WH.step (v := (encSl e_Api_Mod a0.Mods)) rfl (nz rfl (stp_load rfl (H.get 0 rfl) rfl)) rfl rfl <| wh (.ptr i1 1) rfl rfl <| WH.step (v := .int .i64 a0.Op) rfl (nz rfl (stp_load rfl (H.get 0 rfl) rfl)) rfl rfl <| wh (.bool (a0.Op == 4)) rfl rfl <| WH.nil ?_
 obtain ⟨y1874, hy1874, h⟩ := bindS h
 refine cl (.agg (c_Api_Element y1874)) [(encSl e_Api_Mod a0.Mods), (.bool (a0.Op == 4))] rfl rfl rfl (fe rfl (fz_tmp' rfl rfl)) (sv (s33 _ hy1874)) <| WS rfl (nz rfl (stp_buildSlice (ys := [y1873, y1874]) (f := e_Api_Element) (parts := [(0, (.agg (c_Api_Element y1873))), (1, (.agg (c_Api_Element y1874)))]) rfl rfl rfl rfl rfl (by simp only [st_agg, List.map_cons, List.map_nil, st1_int, st1_str, strip1_enc, e_Api_Element_eq, tupled]) (fc ⟨rfl, rfl⟩ (fc ⟨rfl, rfl⟩ (fun p hp => nomatch hp))) rfl)) ?_
 have hv1875 : IsSl e_Api_Element (some [y1873, y1874]) _ := ⟨.full, rfl⟩
 refine us 1 rfl <| WO.nil <| KX.seq_n <| WC.ret <| KX.block_r <| KX.seq_r ?_
 have h := oi h; subst h
 refine KB.ret (vs := [(.lst (List.map e_Api_Element [y1873, y1874]) .full)]) (res_tmp rfl res_nil) (fl_cons' hv1875.frz rfl) ?_
 exact (by simp only [st_tup, List.map_cons, List.map_nil, tupled, hv1875.strip, st_lst, encSl_some, eI, eB, eS])
 refine WC.condF rfl hc1952 <| WC.seqR <| us 2 rfl <| WO.nil ?_
 rcases iteS h with ⟨hc1951, h⟩ | ⟨hc1951, h⟩
 refine WC.condT rfl hc1951 <| WC.seq <| WC.draw <| wh (.ptr i1 3) rfl rfl <| WH.step (v := .str a0.DN) rfl (nz rfl (stp_load rfl (H.get 0 rfl) rfl)) rfl rfl ?_
 obtain ⟨y1912, hy1912, h⟩ := bindS h
 refine WH.step (v := (.agg (c_Api_Element y1912))) rfl (nz rfl (stp_call (vs := [(.int .u8 4), (.str a0.DN)]) rfl rfl (s13 _ hy1912 rfl _))) rfl rfl <| wh (.ptr i1 15) rfl rfl <| WH.step (v := .str a0.RDN) rfl (nz rfl (stp_load rfl (H.get 0 rfl) rfl)) rfl rfl ?_
 obtain ⟨y1913, hy1913, h⟩ := bindS h
 refine WH.step (v := (.agg (c_Api_Element y1913))) rfl (nz rfl (stp_call (vs := [(.int .u8 4), (.str a0.RDN)]) rfl rfl (s13 _ hy1913 rfl _))) rfl rfl <| wh (.ptr i1 16) rfl rfl <| WH.step (v := .bool a0.DelOld) rfl (nz rfl (stp_load rfl (H.get 0 rfl) rfl)) rfl rfl <| WH.nil ?_
 obtain ⟨y1914, hy1914, h⟩ := bindS h
 refine cl (.agg (c_Api_Element y1914)) [(.bool a0.DelOld)] rfl rfl rfl rfl (s31 _ hy1914 rfl) <| WS rfl (nz rfl (stp_buildSlice (ys := [y1912, y1913, y1914]) (f := e_Api_Element) (parts := [(0, (.agg (c_Api_Element y1912))), (1, (.agg (c_Api_Element y1913))), (2, (.agg (c_Api_Element y1914)))]) rfl rfl rfl rfl rfl (by simp only [st_agg, List.map_cons, List.map_nil, st1_int, st1_str, strip1_enc, e_Api_Element_eq, tupled]) (fc ⟨rfl, rfl⟩ (fc ⟨rfl, rfl⟩ (fc ⟨rfl, rfl⟩ (fun p hp => nomatch hp)))) rfl)) ?_
 have hv1915 : IsSl e_Api_Element (some [y1912, y1913, y1914]) _ := ⟨.full, rfl⟩
 refine us 1 rfl <| WO.nil <| KX.seq_n <| WC.seq <| WC.seqR <| us 1 rfl <| wg H 0 rfl rfl rfl rfl <| WO.nil ?_
 obtain ⟨y1926, hy1926, hOy1926⟩ := bindS h
 refine WC.join (fun σ' S' e' => ∃ v1927, IsSl e_Api_Element y1926 v1927 ∧ Known ([(6, v1927)]) σ' ∧ Hp [] [] S' [(i1, .cells (c_Api_Msg a0))] [] [] ∧ e' = false) ?_ ?_
 replace h := hy1926
 rcases iteS h with ⟨hc1932, h⟩ | ⟨hc1932, h⟩
 refine WC.condT rfl hc1932 <| WC.region <| us 2 rfl <| wg H 0 rfl rfl rfl rfl ?_
 obtain ⟨y1928, hy1928, h⟩ := bindS h
 refine cl (.agg (c_Api_Element y1928)) [(.int .u8 128), (.str a0.Sup)] rfl rfl rfl rfl (s13 _ hy1928 rfl) <| WS rfl (nz rfl (stp_buildSlice (ys := [y1928]) (f := e_Api_Element) (parts := [(0, (.agg (c_Api_Element y1928)))]) rfl rfl rfl rfl rfl (by simp only [st_agg, List.map_cons, List.map_nil, st1_int, st1_str, strip1_enc, e_Api_Element_eq, tupled]) (fc ⟨rfl, rfl⟩ (fun p hp => nomatch hp)) rfl)) ?_
 have hv1929 : IsSl e_Api_Element (some [y1928]) _ := ⟨.full, rfl⟩
 obtain ⟨z1930, hz1930, h⟩ := bindS h
 have H := H.addFull (List.map e_Api_Element [y1912, y1913, y1914]) 3 (sized_map (f := e_Api_Element) (fun a => (e_Api_Element_one a).2.1) _)
 refine WO.ex rfl (nzx (fz_tmp' hv1929.frz rfl) (stp_app (f := e_Api_Element) (ei := ty44) H 0 rfl rfl hv1915 rfl hv1929 rfl rfl rfl rfl (fun a => (e_Api_Element_one a).2.1) hz1930)) ?_
 rintro v1931 S ⟨hv1931, H⟩
 replace H : Hp [] [] _ [(i1, .cells (c_Api_Msg a0))] [(v1931, 3)] [] := H
 refine w v1931 rfl rfl <| WO.nil <| KX.seq_n ?_
 have h := oi h; subst h
 exact ⟨v1931, hv1931, kn, (H.sub (.cons_cons _ .slnil) (.cons _ .slnil) .slnil), rfl⟩
 refine WC.condF rfl hc1932 <| WC.skip <| KX.seq_n ?_
 have h := oi h; subst h
 exact ⟨(.lst (List.map e_Api_Element [y1912, y1913, y1914]) .full), hv1915, kn, (hs H), rfl⟩
 rintro σ S e ⟨v1927, hv1927, hk, H, rfl⟩
 replace h := hOy1926
 refine KX.of_known hk <| KX.seq_n <| WC.seqR <| w v1927 rfl rfl <| w v1927 rfl rfl <| WO.nil <| WC.ret <| KX.block_r <| KX.seq_r ?_
 have h := oi h; subst h
 refine KB.ret (vs := [v1927]) (res_tmp rfl res_nil) (fl_cons' hv1927.frz rfl) ?_
 exact (by simp only [st_tup, List.map_cons, List.map_nil, tupled, hv1927.strip])
 refine WC.condF rfl hc1951 <| WC.seqR <| us 2 rfl <| WO.nil ?_
 rcases iteS h with ⟨hc1950, h⟩ | ⟨hc1950, h⟩
 refine WC.condT rfl hc1950 <| WC.seq <| WC.draw <| wh (.ptr i1 3) rfl rfl <| WH.step (v := .str a0.DN) rfl (nz rfl (stp_load rfl (H.get 0 rfl) rfl)) rfl rfl ?_
 obtain ⟨y1940, hy1940, h⟩ := bindS h
 refine WH.step (v := (.agg (c_Api_Element y1940))) rfl (nz rfl (stp_call (vs := [(.int .u8 4), (.str a0.DN)]) rfl rfl (s13 _ hy1940 rfl _))) rfl rfl <| wh (.ptr i1 19) rfl rfl <| WH.step (v := .str a0.Attr) rfl (nz rfl (stp_load rfl (H.get 0 rfl) rfl)) rfl rfl ?_
 obtain ⟨y1941, hy1941, h⟩ := bindS h
 refine WH.step (v := (.agg (c_Api_Element y1941))) rfl (nz rfl (stp_call (vs := [(.int .u8 4), (.str a0.Attr)]) rfl rfl (s13 _ hy1941 rfl _))) rfl rfl <| wh (.ptr i1 20) rfl rfl <| WH.step (v := .str a0.Value) rfl (nz rfl (stp_load rfl (H.get 0 rfl) rfl)) rfl rfl <| WH.nil ?_
 obtain ⟨y1942, hy1942, h⟩ := bindS h
 refine cl (.agg (c_Api_Element y1942)) [(.int .u8 4), (.str a0.Value)] rfl rfl rfl rfl (s13 _ hy1942 rfl) <| WS rfl (nz rfl (stp_buildSlice (ys := [y1941, y1942]) (f := e_Api_Element) (parts := [(0, (.agg (c_Api_Element y1941))), (1, (.agg (c_Api_Element y1942)))]) rfl rfl rfl rfl rfl (by simp only [st_agg, List.map_cons, List.map_nil, st1_int, st1_str, strip1_enc, e_Api_Element_eq, tupled]) (fc ⟨rfl, rfl⟩ (fc ⟨rfl, rfl⟩ (fun p hp => nomatch hp))) rfl)) ?_
 have hv1943 : IsSl e_Api_Element (some [y1941, y1942]) _ := ⟨.full, rfl⟩
 obtain ⟨y1944, hy1944, h⟩ := bindS h
 refine cl (.agg (c_Api_Element y1944)) [(.int .u8 48), (.lst (List.map e_Api_Element [y1941, y1942]) .full)] rfl rfl rfl (fo rfl (fz_tmp' hv1943.frz rfl)) (s12 _ hy1944 (by simp only [st_int, hv1943.strip, st_lst, encSl_some, eI, eB, eS, List.map_cons, List.map_nil, tupled] <;> rfl)) <| WS rfl (nz rfl (stp_buildSlice (ys := [y1940, y1944]) (f := e_Api_Element) (parts := [(0, (.agg (c_Api_Element y1940))), (1, (.agg (c_Api_Element y1944)))]) rfl rfl rfl rfl rfl (by simp only [st_agg, List.map_cons, List.map_nil, st1_int, st1_str, strip1_enc, e_Api_Element_eq, tupled]) (fc ⟨rfl, rfl⟩ (fc ⟨rfl, rfl⟩ (fun p hp => nomatch hp))) rfl)) ?_
 have hv1945 : IsSl e_Api_Element (some [y1940, y1944]) _ := ⟨.full, rfl⟩
 refine us 1 rfl <| WO.nil <| KX.seq_n <| WC.ret <| KX.block_r <| KX.seq_r ?_
 have h := oi h; subst h
 refine KB.ret (vs := [(.lst (List.map e_Api_Element [y1940, y1944]) .full)]) (res_tmp rfl res_nil) (fl_cons' hv1945.frz rfl) ?_
 exact (by simp only [st_tup, List.map_cons, List.map_nil, tupled, hv1945.strip, st_lst, encSl_some, eI, eB, eS])
 refine WC.condF rfl hc1950 <| WC.skip <| KX.block_n <| KX.seq_n <| WC.seq <| WC.draw <| wh (.ptr i1 21) rfl rfl <| WH.step (v := .int .i64 a0.Code) rfl (nz rfl (stp_load rfl (H.get 0 rfl) rfl)) rfl rfl ?_
 obtain ⟨y1946, hy1946, h⟩ := bindS h
 refine WH.step (v := (.agg (c_Api_Element y1946))) rfl (nz rfl (stp_call (vs := [(.int .u8 10), (.int .i64 a0.Code)]) rfl rfl (s15 _ hy1946 rfl _))) rfl rfl <| wh (.ptr i1 22) rfl rfl <| WH.step (v := .str a0.Matched) rfl (nz rfl (stp_load rfl (H.get 0 rfl) rfl)) rfl rfl <| WH.nil ?_
 obtain ⟨y1947, hy1947, h⟩ := bindS h
 refine cl (.agg (c_Api_Element y1947)) [(.int .u8 4), (.str a0.Matched)] rfl rfl rfl rfl (s13 _ hy1947 rfl) ?_
 obtain ⟨y1948, hy1948, h⟩ := bindS h
 refine cl (.agg (c_Api_Element y1948)) [(.int .u8 4), (.str [])] rfl rfl rfl rfl (s13 _ hy1948 rfl) <| WS rfl (nz rfl (stp_buildSlice (ys := [y1946, y1947, y1948]) (f := e_Api_Element) (parts := [(0, (.agg (c_Api_Element y1946))), (1, (.agg (c_Api_Element y1947))), (2, (.agg (c_Api_Element y1948)))]) rfl rfl rfl rfl rfl (by simp only [st_agg, List.map_cons, List.map_nil, st1_int, st1_str, strip1_enc, e_Api_Element_eq, tupled]) (fc ⟨rfl, rfl⟩ (fc ⟨rfl, rfl⟩ (fc ⟨rfl, rfl⟩ (fun p hp => nomatch hp)))) rfl)) ?_
 have hv1949 : IsSl e_Api_Element (some [y1946, y1947, y1948]) _ := ⟨.full, rfl⟩
 refine us 1 rfl <| WO.nil <| KX.seq_n <| WC.ret ?_
 have h := oi h; subst h
 refine KB.ret (vs := [(.lst (List.map e_Api_Element [y1946, y1947, y1948]) .full)]) (res_tmp rfl res_nil) (fl_cons' hv1949.frz rfl) ?_
 exact (by simp only [st_tup, List.map_cons, List.map_nil, tupled, hv1949.strip, st_lst, encSl_some, eI, eB, eS])
def F35 (k : Nat) (a0 : Int) : Option Str :=
 if decide (a0 < 128) then
 some (Str.of (some [cv .u8 a0]))
 else
 if decide (a0 < 256) then
 some (Str.of (some [129, cv .u8 a0]))
 else
 Option.bind (shr? .i64 a0 8) fun z23 =>
 some (Str.of (some [130, cv .u8 z23, cv .u8 a0]))
theorem s35 : ∀ k : Nat, ∀ {a0 : Int} {r : Str}, F35 k a0 = some r → Q 35 [(.int .i64 a0)] (.str r) := by
 intro k a0 r h
 unfold F35 at h
 refine Qe.go (pf := fn35) rfl rfl (Nat.le_of_ble_eq_true rfl) rfl rfl rfl fun H => ?_
 refine WC.seqR <| us 1 rfl <| WO.nil <| WC.seq <| WC.block <| WC.seqR <| us 3 rfl <| WO.nil ?_
 rcases iteS h with ⟨hc26, h⟩ | ⟨hc26, h⟩
 refine WC.condT rfl hc26 <| WC.seqR <| us 2 rfl <| WS rfl (nz rfl (stp_buildSlice (ys := [cv .u8 a0]) (f := (eI .u8)) (parts := [(0, (.int .u8 (cv .u8 a0)))]) rfl rfl rfl rfl rfl rfl (fc ⟨rfl, rfl⟩ (fun p hp => nomatch hp)) rfl)) ?_
 have hv19 : IsSl (eI .u8) (some [cv .u8 a0]) _ := ⟨.full, rfl⟩
 refine w (.str (Str.of (some [cv .u8 a0]))) rfl (nz (fz_tmp' hv19.frz rfl) (stp_text rfl hv19 rfl rfl rfl)) <| us 1 rfl <| WO.nil <| WC.ret <| KX.block_r <| KX.seq_r ?_
 have h := oi h; subst h
 exact kr (.str (Str.of (some [cv .u8 a0]))) rfl rfl rfl
 refine WC.condF rfl hc26 <| WC.seqR <| us 3 rfl <| WO.nil ?_
 rcases iteS h with ⟨hc25, h⟩ | ⟨hc25, h⟩
 refine WC.condT rfl hc25 <| WC.seqR <| us 2 rfl <| WS rfl (nz rfl (stp_buildSlice (ys := [129, cv .u8 a0]) (f := (eI .u8)) (parts := [(0, (.int .u8 129)), (1, (.int .u8 (cv .u8 a0)))]) rfl rfl rfl rfl rfl rfl (fc ⟨rfl, rfl⟩ (fc ⟨rfl, rfl⟩ (fun p hp => nomatch hp))) rfl)) ?_
 have hv22 : IsSl (eI .u8) (some [129, cv .u8 a0]) _ := ⟨.full, rfl⟩
 refine w (.str (Str.of (some [129, cv .u8 a0]))) rfl (nz (fz_tmp' hv22.frz rfl) (stp_text rfl hv22 rfl rfl rfl)) <| us 1 rfl <| WO.nil <| WC.ret <| KX.block_r <| KX.seq_r ?_
 have h := oi h; subst h
 exact kr (.str (Str.of (some [129, cv .u8 a0]))) rfl rfl rfl
 refine WC.condF rfl hc25 <| WC.skip <| KX.block_n <| KX.seq_n <| WC.seqR <| us 1 rfl ?_
 obtain ⟨z23, hz23, h⟩ := bindS h
 refine w (.int .i64 z23) rfl (nz rfl (stp_shr rfl rfl hz23)) <| us 3 rfl <| WS rfl (nz rfl (stp_buildSlice (ys := [130, cv .u8 z23, cv .u8 a0]) (f := (eI .u8)) (parts := [(0, (.int .u8 130)), (1, (.int .u8 (cv .u8 z23))), (2, (.int .u8 (cv .u8 a0)))]) rfl rfl rfl rfl rfl rfl (fc ⟨rfl, rfl⟩ (fc ⟨rfl, rfl⟩ (fc ⟨rfl, rfl⟩ (fun p hp => nomatch hp)))) rfl)) ?_
 have hv24 : IsSl (eI .u8) (some [130, cv .u8 z23, cv .u8 a0]) _ := ⟨.full, rfl⟩
 refine w (.str (Str.of (some [130, cv .u8 z23, cv .u8 a0]))) rfl (nz (fz_tmp' hv24.frz rfl) (stp_text rfl hv24 rfl rfl rfl)) <| us 1 rfl <| WO.nil <| WC.ret ?_
 have h := oi h; subst h
 exact kr (.str (Str.of (some [130, cv .u8 z23, cv .u8 a0]))) rfl rfl rfl
def F16_L0 (rc0 : Api_Element → Option Int) (k : Nat) (a26 : Sl Api_Element) (a27 : Int) : Nat → Int → Int → Option (Int × Int)
 | 0, _, _ => none
 | n + 1, x25, x28 =>
  if decide (x28 < a27) then
  Option.bind (Sl.at? a26 x28) fun y33 =>
  Option.bind (rc0 y33) fun y35 =>
  F16_L0 rc0 k a26 a27 n (ad .i64 x25 y35) (ad .i64 x28 1)
  else
  some (x25, x28)
def F16 : Nat → Api_Element → Option Int
 | 0, _ => none
 | k + 1, a0 =>
  Option.bind (F16_L0 (F16 k) k a0.Kids (Sl.len a0.Kids) k (Str.len a0.Body) 0) fun y37 =>
  Option.bind (F35 k (imin y37.1 4001)) fun y38 =>
  some (ad .i64 (ad .i64 1 (Str.len y38)) y37.1)
theorem l16_L0 {rc0 : Api_Element → Option Int} (hrc0 : ∀ {a0 : Api_Element} {r : Int}, rc0 a0 = some r → Q 16 [(.agg (c_Api_Element a0))] (.int .i64 r)) {k : Nat} {a26 : Sl Api_Element} {a27 : Int} {S0 : List SObj} {R : List Nat} {K : KX}  {o : (Int × Int)}
  (hbrk : EK [(3, (.int .i64 o.1))] S0 R [] [] [] (K (.exit 0))) :
  ∀ {n : Nat} {x25 : Int} {x28 : Int}, F16_L0 rc0 k a26 a27 n x25 x28 = some o → ∀ {σ : Nat → PV} {S : List SObj}, Known [(3, (.int .i64 x25)), (10, (encSl e_Api_Element a26)), (11, (.int .i64 a27)), (12, (.int .i64 x28))] σ → Hp S0 R S [] [] [] → WC env ⟨28, S0.length⟩ (.loop pc16L0) σ S false K := by
 intro n
 induction n with
 | zero => intro _ _ h; cases h
 | succ n ih =>
  intro x25 x28 h σ S  hk H
  rw [F16_L0] at h
  refine WC.loop <| WC.of_known hk <| WC.seqR <| us 1 rfl <| WO.nil <| WC.seq ?_
  rcases iteS h with ⟨hc36, h⟩ | ⟨hc36, h⟩
  refine WC.condT rfl hc36 <| WC.skip <| KX.seq_n <| WC.seq <| WC.block <| WC.seqR ?_
  obtain ⟨y33, hy33, h⟩ := bindS h
  refine w (.iptr (c_Api_Element y33) 0) rfl (nz rfl (stp_idxAddr rfl (isSl_enc _ _) rfl rfl rfl hy33 (e_Api_Element_cells _) rfl)) <| us 1 rfl <| WO.alloc' (ti := ty44) rfl rfl rfl rfl H ?_
  intro i34 S hi34 H
  refine wos 0 H hi34 rfl rfl rfl rfl rfl rfl rfl rfl rfl rfl ?_
  intro S H
  replace H : Hp S0 R _ [(i34, .cells (c_Api_Element y33))] [] [] := H
  refine WO.nil <| WC.region <| us 1 rfl <| wg H 0 rfl rfl rfl rfl ?_
  obtain ⟨y35, hy35, h⟩ := bindS h
  refine cl (.int .i64 y35) [(.agg (c_Api_Element y33))] rfl rfl rfl rfl (sv (hrc0 hy35)) <| us 2 rfl <| WO.nil <| KX.block_n <| KX.seq_n <| WC.region <| us 2 rfl <| WO.nil <| KX.seq_n ?_
  exact ih h  kn (H.sub (.cons _ .slnil) .slnil .slnil)
  refine WC.condF rfl hc36 <| WC.exit <| KX.seq_x <| KX.seq_x ?_
  have h := oi h; subst h
  exact hbrk  kn (hs H)
theorem s16 : ∀ k : Nat, ∀ {a0 : Api_Element} {r : Int}, F16 k a0 = some r → Q 16 [(.agg (c_Api_Element a0))] (.int .i64 r) := by
 intro k
 induction k with
 | zero => intro _ r h; cases h
 | succ k ih =>
  intro a0 r h
  rw [F16] at h
  refine Qe.go (pf := fn16) rfl rfl (Nat.le_of_ble_eq_true rfl) (by simp [PV.clean, cleanL, clean_encSl clean_Api_Element]) rfl rfl fun H => ?_
  refine WC.seqR <| WO.box' rfl rfl rfl rfl rfl H ?_
  intro i1 S hi1 H
  refine us 1 rfl <| WO.nil <| WC.seqR <| us 1 rfl <| wg H 0 rfl rfl rfl rfl <| us 2 rfl <| WO.nil <| WC.seq <| WC.seqR <| us 1 rfl <| wg H 0 rfl rfl rfl rfl <| wl rfl rfl rfl <| us 1 rfl <| WO.nil ?_
  obtain ⟨y37, hy37, hOy37⟩ := bindS h
  refine WC.block ?_
  refine l16_L0 ih ?_ hy37  kn (H.sub (.cons _ .slnil) .slnil .slnil)
  intro σ S  hk H; replace h := hOy37
  refine KX.of_known hk <| KX.block_x <| KX.seq_n <| WC.seqR <| us 2 rfl ?_
  obtain ⟨y38, hy38, h⟩ := bindS h
  refine cl (.str y38) [(.int .i64 (imin y37.1 4001))] rfl rfl rfl rfl (s35 _ hy38 rfl) <| us 5 rfl <| WO.nil <| WC.ret ?_
  have h := oi h; subst h
  exact kr (.int .i64 (ad .i64 (ad .i64 1 (Str.len y38)) y37.1)) rfl rfl rfl
def F53 (k : Nat) (rc0 : Api_Element → Option Bool) (a0 : Api_Element) : Option Bool :=
 Option.bind (rc0 a0) fun y2 =>
 some (!y2)
theorem s53 {rc0 : Api_Element → Option Bool} (hrc0 : ∀ {a0 : Api_Element} {r : Bool}, rc0 a0 = some r → Q 36 [(.agg (c_Api_Element a0))] (.bool r))  : ∀ k : Nat, ∀ {a0 : Api_Element} {r : Bool}, F53 k rc0 a0 = some r → Q 53 [(.agg (c_Api_Element a0))] (.bool r) := by
 intro k a0 r h
 unfold F53 at h
 refine Qe.go (pf := fn53) rfl rfl (Nat.le_of_ble_eq_true rfl) (by simp [PV.clean, cleanL, clean_encSl clean_Api_Element]) rfl rfl fun H => ?_
 refine WC.seqR <| WO.box' rfl rfl rfl rfl rfl H ?_
 intro i1 S hi1 H
 refine us 1 rfl <| WO.nil <| WC.seqR <| wg H 0 rfl rfl rfl rfl ?_
 obtain ⟨y2, hy2, h⟩ := bindS h
 refine cl (.bool y2) [(.agg (c_Api_Element a0))] rfl rfl rfl rfl (sv (hrc0 hy2)) <| us 2 rfl <| WO.nil <| WC.ret ?_
 have h := oi h; subst h
 exact kr (.bool (!y2)) rfl rfl rfl
def F71_53_L0 (rc0 : Api_Element → Option Bool) (k : Nat) (a26 : Sl Api_Element) (a27 : Int) : Nat → Int → Option (Out Int Int)
 | 0, _ => none
 | n + 1, x28 =>
  if decide (x28 < a27) then
  Option.bind (Sl.at? a26 x28) fun y34 =>
  Option.bind (F53 k rc0 y34) fun y35 =>
  if y35 then
  some (Out.ret x28)
  else
  F71_53_L0 rc0 k a26 a27 n (ad .i64 x28 1)
  else
  some (Out.brk x28)
def F71_53 (k : Nat) (rc0 : Api_Element → Option Bool) (a0 : Sl Api_Element) : Option Int :=
 Option.bind (F71_53_L0 rc0 k a0 (Sl.len a0) k 0) fun y39 =>
 match y39 with
 | .ret y39r => some y39r
 | .brk y39b =>
 some (-1)
theorem l71_53_L0 {rc0 : Api_Element → Option Bool} (hrc0 : ∀ {a0 : Api_Element} {r : Bool}, rc0 a0 = some r → Q 36 [(.agg (c_Api_Element a0))] (.bool r)) {k : Nat} {a26 : Sl Api_Element} {a27 : Int} {S0 : List SObj} {R : List Nat} {K : KX}  {o : Out Int Int}
  (hret : ∀ r : Int, o = .ret r → EK [(4, (.int .i64 r))] S0 R [] [] [] (K .ret))
  (hbrk : ∀ y : Int, o = .brk y → EK [] S0 R [] [] [] (K (.exit 0))) :
  ∀ {n : Nat} {x28 : Int}, F71_53_L0 rc0 k a26 a27 n x28 = some o → ∀ {σ : Nat → PV} {S : List SObj}, Known [(0, (encSl e_Api_Element a26)), (1, (.fn (.func 53) [] [])), (7, (.int .i64 a27)), (8, (.int .i64 x28))] σ → Hp S0 R S [] [] [] → WC env ⟨19, S0.length⟩ (.loop pc71L0) σ S false K := by
 intro n
 induction n with
 | zero => intro _ h; cases h
 | succ n ih =>
  intro x28 h σ S  hk H
  rw [F71_53_L0] at h
  refine WC.loop <| WC.of_known hk <| WC.seqR <| us 1 rfl <| WO.nil <| WC.seq ?_
  rcases iteS h with ⟨hc38, h⟩ | ⟨hc38, h⟩
  refine WC.condT rfl hc38 <| WC.skip <| KX.seq_n <| WC.seq <| WC.block <| WC.seqR <| us 2 rfl <| WO.nil <| WC.seqR <| us 3 rfl ?_
  obtain ⟨y34, hy34, h⟩ := bindS h
  refine w (.iptr (c_Api_Element y34) 0) rfl (nz rfl (stp_idxAddr rfl (isSl_enc _ _) rfl rfl rfl hy34 (e_Api_Element_cells _) rfl)) <| us 1 rfl ?_
  obtain ⟨y35, hy35, h⟩ := bindS h
  refine cl (.bool y35) [(.agg (c_Api_Element y34))] rfl rfl rfl rfl (sv (s53 hrc0 _ hy35)) <| WO.nil ?_
  rcases iteS h with ⟨hc37, h⟩ | ⟨hc37, h⟩
  refine WC.condT rfl hc37 <| WC.seqR <| us 2 rfl <| WO.nil <| WC.ret <| KX.block_r <| KX.seq_r <| KX.seq_r ?_
  have h := oi h; subst h
  exact hret _ rfl kn (hs H)
  refine WC.condF rfl hc37 <| WC.skip <| KX.block_n <| KX.seq_n <| WC.region <| us 2 rfl <| WO.nil <| KX.seq_n ?_
  exact ih h  kn (hs H)
  refine WC.condF rfl hc38 <| WC.exit <| KX.seq_x <| KX.seq_x ?_
  have h := oi h; subst h
  exact hbrk _ rfl  known_nil (hs H)
theorem s71_53 {rc0 : Api_Element → Option Bool} (hrc0 : ∀ {a0 : Api_Element} {r : Bool}, rc0 a0 = some r → Q 36 [(.agg (c_Api_Element a0))] (.bool r))  : ∀ k : Nat, ∀ {a0 : Sl Api_Element} {r : Int}, F71_53 k rc0 a0 = some r → Q 71 [(encSl e_Api_Element a0), (.fn (.func 53) [] [])] (.int .i64 r) := by
 intro k a0 r h
 unfold F71_53 at h
 refine Qe.go (pf := fn71) rfl rfl (Nat.le_of_ble_eq_true rfl) (by simp [PV.clean, cleanL, clean_encSl clean_Api_Element]) rfl rfl fun H => ?_
 refine WC.seqR <| us 1 rfl <| WO.nil <| WC.seq <| WC.seqR <| us 1 rfl <| wl rfl rfl rfl <| us 1 rfl <| WO.nil ?_
 obtain ⟨y39, hy39, hOy39⟩ := bindS h
 refine WC.block ?_
 refine l71_53_L0 hrc0 ?_ ?_ hy39  kn (hs H)
 intro y39r he σ S  hk H; subst he; replace h := hOy39; dsimp only at h
 refine KX.of_known hk <| KX.block_r <| KX.seq_r ?_
 have h := oi h; subst h
 exact kr (.int .i64 y39r) rfl rfl rfl
 intro y39b he σ S  hk H; subst he; replace h := hOy39; dsimp only at h
 refine KX.of_known hk <| KX.block_x <| KX.seq_n <| WC.seqR <| us 1 rfl <| WO.nil <| WC.ret ?_
 have h := oi h; subst h
 exact kr (.int .i64 (-1)) rfl rfl rfl
def F52_53 (k : Nat) (rc0 : Api_Element → Option Bool) (a0 : Sl Api_Element) : Option Bool :=
 Option.bind (F71_53 k rc0 a0) fun y1 =>
 some (decide (y1 ≥ 0))
theorem s52_53 {rc0 : Api_Element → Option Bool} (hrc0 : ∀ {a0 : Api_Element} {r : Bool}, rc0 a0 = some r → Q 36 [(.agg (c_Api_Element a0))] (.bool r))  : ∀ k : Nat, ∀ {a0 : Sl Api_Element} {r : Bool}, F52_53 k rc0 a0 = some r → Q 52 [(encSl e_Api_Element a0), (.fn (.func 53) [] [])] (.bool r) := by
 intro k a0 r h
 unfold F52_53 at h
 refine Qe.go (pf := fn52) rfl rfl (Nat.le_of_ble_eq_true rfl) (by simp [PV.clean, cleanL, clean_encSl clean_Api_Element]) rfl rfl fun H => ?_
 refine WC.seqR <| us 1 rfl <| WO.nil <| WC.seqR <| us 2 rfl ?_
 obtain ⟨y1, hy1, h⟩ := bindS h
 refine cl (.int .i64 y1) [(encSl e_Api_Element a0), (.fn (.func 53) [] [])] rfl rfl rfl (fe rfl (fz_tmp' rfl rfl)) (sv (s71_53 hrc0 _ hy1)) <| us 2 rfl <| WO.nil <| WC.ret ?_
 have h := oi h; subst h
 exact kr (.bool (decide (y1 ≥ 0))) rfl rfl rfl
def F36 : Nat → Api_Element → Option Bool
 | 0, _ => none
 | k + 1, a0 =>
  if (bAnd .u8 a0.Tag 31) == 31 then
  some false
  else
  if (bAnd .u8 a0.Tag 32) == 0 then
  some ((Sl.len a0.Kids) == 0)
  else
  Option.bind (if a0.Body == [] then
  Option.bind (F52_53 k (F36 k) a0.Kids) fun y17 =>
  some (!y17)
  else
  some false) fun y16 =>
  some y16
theorem s36 : ∀ k : Nat, ∀ {a0 : Api_Element} {r : Bool}, F36 k a0 = some r → Q 36 [(.agg (c_Api_Element a0))] (.bool r) := by
 intro k
 induction k with
 | zero => intro _ r h; cases h
 | succ k ih =>
  intro a0 r h
  rw [F36] at h
  refine Qe.go (pf := fn36) rfl rfl (Nat.le_of_ble_eq_true rfl) (by simp [PV.clean, cleanL, clean_encSl clean_Api_Element]) rfl rfl fun H => ?_
  refine WC.seqR <| WO.box' rfl rfl rfl rfl rfl H ?_
  intro i1 S hi1 H
  refine us 1 rfl <| WO.nil <| WC.seq <| WC.block <| WC.seqR <| us 1 rfl <| wg H 0 rfl rfl rfl rfl <| us 3 rfl <| WO.nil ?_
  rcases iteS h with ⟨hc20, h⟩ | ⟨hc20, h⟩
  refine WC.condT rfl hc20 <| WC.seqR <| us 1 rfl <| WO.nil <| WC.ret <| KX.block_r <| KX.seq_r ?_
  have h := oi h; subst h
  exact kr (.bool false) rfl rfl rfl
  refine WC.condF rfl hc20 <| WC.seqR <| us 1 rfl <| wg H 0 rfl rfl rfl rfl <| us 3 rfl <| WO.nil ?_
  rcases iteS h with ⟨hc19, h⟩ | ⟨hc19, h⟩
  refine WC.condT rfl hc19 <| WC.seqR <| us 1 rfl <| wg H 0 rfl rfl rfl rfl <| wl rfl rfl rfl <| us 2 rfl <| WO.nil <| WC.ret <| KX.block_r <| KX.seq_r ?_
  have h := oi h; subst h
  exact kr (.bool ((Sl.len a0.Kids) == 0)) rfl rfl rfl
  refine WC.condF rfl hc19 <| WC.skip <| KX.block_n <| KX.seq_n <| WC.seqR <| us 1 rfl <| wg H 0 rfl rfl rfl rfl <| w (.bool (a0.Body == [])) rfl rfl <| w (.bool (a0.Body == [])) rfl rfl ?_
  obtain ⟨y16, hy16, hOy16⟩ := bindS h
  refine WO.split 5 (SJ [(25, (.bool y16))] [] [] [(i1, .cells (c_Api_Element a0))] [] [] false) ?_ ?_
  replace h := hy16
  revert H
  cases hc18 : (a0.Body == [])
  intro H
  replace h := iteF h hc18
  refine us 5 rfl <| WO.nil ?_
  have h := oi h; subst h
  exact kh H
  intro H
  replace h := iteT h hc18
  refine us 1 rfl <| WO.go0 rfl rfl <| wg H 0 rfl rfl rfl rfl <| WO.go0 rfl rfl ?_
  obtain ⟨y17, hy17, h⟩ := bindS h
  refine cl (.bool y17) [(encSl e_Api_Element a0.Kids), (.fn (.func 53) [] [])] rfl rfl rfl (fe rfl (fo rfl rfl)) (sv (s52_53 ih _ hy17)) <| us 2 rfl <| WO.nil ?_
  have h := oi h; subst h
  exact kh H
  rintro σ S e ⟨hk, H, rfl⟩
  replace h := hOy16
  refine WO.of_known hk <| us 1 rfl <| WO.nil <| WC.ret ?_
  have h := oi h; subst h
  exact kr (.bool y16) rfl rfl rfl
def F37_L0 (rc0 : Api_Element → Option Int) (k : Nat) (a25 : Sl Api_Element) (a26 : Int) : Nat → Int → Int → Option (Int × Int)
 | 0, _, _ => none
 | n + 1, x24, x27 =>
  if decide (x27 < a26) then
  Option.bind (Sl.at? a25 x27) fun y32 =>
  Option.bind (rc0 y32) fun y34 =>
  F37_L0 rc0 k a25 a26 n (imax x24 y34) (ad .i64 x27 1)
  else
  some (x24, x27)
def F37 : Nat → Api_Element → Option Int
 | 0, _ => none
 | k + 1, a0 =>
  Option.bind (F37_L0 (F37 k) k a0.Kids (Sl.len a0.Kids) k 0 0) fun y36 =>
  some (ad .i64 y36.1 1)
theorem l37_L0 {rc0 : Api_Element → Option Int} (hrc0 : ∀ {a0 : Api_Element} {r : Int}, rc0 a0 = some r → Q 37 [(.agg (c_Api_Element a0))] (.int .i64 r)) {k : Nat} {a25 : Sl Api_Element} {a26 : Int} {S0 : List SObj} {R : List Nat} {K : KX}  {o : (Int × Int)}
  (hbrk : EK [(3, (.int .i64 o.1))] S0 R [] [] [] (K (.exit 0))) :
  ∀ {n : Nat} {x24 : Int} {x27 : Int}, F37_L0 rc0 k a25 a26 n x24 x27 = some o → ∀ {σ : Nat → PV} {S : List SObj}, Known [(3, (.int .i64 x24)), (7, (encSl e_Api_Element a25)), (8, (.int .i64 a26)), (9, (.int .i64 x27))] σ → Hp S0 R S [] [] [] → WC env ⟨20, S0.length⟩ (.loop pc37L0) σ S false K := by
 intro n
 induction n with
 | zero => intro _ _ h; cases h
 | succ n ih =>
  intro x24 x27 h σ S  hk H
  rw [F37_L0] at h
  refine WC.loop <| WC.of_known hk <| WC.seqR <| us 1 rfl <| WO.nil <| WC.seq ?_
  rcases iteS h with ⟨hc35, h⟩ | ⟨hc35, h⟩
  refine WC.condT rfl hc35 <| WC.skip <| KX.seq_n <| WC.seq <| WC.block <| WC.seqR ?_
  obtain ⟨y32, hy32, h⟩ := bindS h
  refine w (.iptr (c_Api_Element y32) 0) rfl (nz rfl (stp_idxAddr rfl (isSl_enc _ _) rfl rfl rfl hy32 (e_Api_Element_cells _) rfl)) <| us 1 rfl <| WO.alloc' (ti := ty44) rfl rfl rfl rfl H ?_
  intro i33 S hi33 H
  refine wos 0 H hi33 rfl rfl rfl rfl rfl rfl rfl rfl rfl rfl ?_
  intro S H
  replace H : Hp S0 R _ [(i33, .cells (c_Api_Element y32))] [] [] := H
  refine WO.nil <| WC.region <| us 1 rfl <| wg H 0 rfl rfl rfl rfl ?_
  obtain ⟨y34, hy34, h⟩ := bindS h
  refine cl (.int .i64 y34) [(.agg (c_Api_Element y32))] rfl rfl rfl rfl (sv (hrc0 hy34)) <| us 2 rfl <| WO.nil <| KX.block_n <| KX.seq_n <| WC.region <| us 2 rfl <| WO.nil <| KX.seq_n ?_
  exact ih h  kn (H.sub (.cons _ .slnil) .slnil .slnil)
  refine WC.condF rfl hc35 <| WC.exit <| KX.seq_x <| KX.seq_x ?_
  have h := oi h; subst h
  exact hbrk  kn (hs H)
theorem s37 : ∀ k : Nat, ∀ {a0 : Api_Element} {r : Int}, F37 k a0 = some r → Q 37 [(.agg (c_Api_Element a0))] (.int .i64 r) := by
 intro k
 induction k with
 | zero => intro _ r h; cases h
 | succ k ih =>
  intro a0 r h
  rw [F37] at h
  refine Qe.go (pf := fn37) rfl rfl (Nat.le_of_ble_eq_true rfl) (by simp [PV.clean, cleanL, clean_encSl clean_Api_Element]) rfl rfl fun H => ?_
  refine WC.seqR <| WO.box' rfl rfl rfl rfl rfl H ?_
  intro i1 S hi1 H
  refine us 1 rfl <| WO.nil <| WC.seqR <| us 1 rfl <| WO.nil <| WC.seq <| WC.seqR <| us 1 rfl <| wg H 0 rfl rfl rfl rfl <| wl rfl rfl rfl <| us 1 rfl <| WO.nil ?_
  obtain ⟨y36, hy36, hOy36⟩ := bindS h
  refine WC.block ?_
  refine l37_L0 ih ?_ hy36  kn (H.sub (.cons _ .slnil) .slnil .slnil)
  intro σ S  hk H; replace h := hOy36
  refine KX.of_known hk <| KX.block_x <| KX.seq_n <| WC.seqR <| us 3 rfl <| WO.nil <| WC.ret ?_
  have h := oi h; subst h
  exact kr (.int .i64 (ad .i64 y36.1 1)) rfl rfl rfl
def F38_L0 (rc0 : Api_Element → Option (Str × Bool)) (k : Nat) (a63 : Sl Api_Element) (a64 : Int) (a66 : Api_Element) : Nat → (Sl Int) → Int → Option (Out (Str × Bool) ((Sl Int) × Int))
 | 0, _, _ => none
 | n + 1, x61, x65 =>
  if decide (x65 < a64) then
  Option.bind (Sl.at? a63 x65) fun y76 =>
  Option.bind (rc0 y76) fun y78 =>
  if (!y78.2) || (decide ((ad .i64 (Sl.len x61) (Str.len y78.1)) > 4000)) then
  some (Out.ret ([], false))
  else
  Option.bind (Sl.app? 1 x61 (Sl.l (Str.bytes y78.1))) fun z81 =>
  F38_L0 rc0 k a63 a64 a66 n z81 (ad .i64 x65 1)
  else
  some (Out.brk (x61, x65))
def F38 : Nat → Api_Element → Option (Str × Bool)
 | 0, _ => none
 | k + 1, a0 =>
  Option.bind (F38_L0 (F38 k) k a0.Kids (Sl.len a0.Kids) a0 k (Str.bytes a0.Body) 0) fun y86 =>
  match y86 with
  | .ret y86r => some (y86r.1, y86r.2)
  | .brk y86b =>
  if decide ((Sl.len y86b.1) > 4000) then
  some ([], false)
  else
  Option.bind (F35 k (Sl.len y86b.1)) fun y90 =>
  Option.bind (Str.app? (Str.of (some [a0.Tag])) y90) fun z91 =>
  Option.bind (Str.app? z91 (Str.of y86b.1)) fun z92 =>
  some (z92, true)
theorem l38_L0 {rc0 : Api_Element → Option (Str × Bool)} (hrc0 : ∀ {a0 : Api_Element} {r : Str × Bool}, rc0 a0 = some r → Q 38 [(.agg (c_Api_Element a0))] (.tup [(.str r.1), (.bool r.2)])) {k : Nat} {a63 : Sl Api_Element} {a64 : Int} {a66 : Api_Element} {S0 : List SObj} {R : List Nat} {K : KX} {i1 : Nat} (hi1 : S0.length ≤ i1)  {o : Out (Str × Bool) ((Sl Int) × Int)}
  (hret : ∀ r : Str × Bool, o = .ret r → EK [(2, (.str r.1)), (3, (.bool r.2))] S0 R [] [] [] (K .ret))
  (hbrk : ∀ y : (Sl Int) × Int, o = .brk y → ∀ {σ' : Nat → PV} {S' : List SObj}, ∀ (v85 : PV) (_ : IsSl (eI .u8) y.1 v85), Known [(1, (.ptr i1 0)), (4, v85)] σ' → Hp S0 R S' [(i1, .cells (c_Api_Element a66))] [(v85, 1)] [] → K (.exit 0) σ' S' false) :
  ∀ {n : Nat} {x61 : Sl Int} {x65 : Int}, F38_L0 rc0 k a63 a64 a66 n x61 x65 = some o → ∀ {σ : Nat → PV} {S : List SObj}, ∀ (v62 : PV) (_ : IsSl (eI .u8) x61 v62), Known [(1, (.ptr i1 0)), (4, v62), (13, (encSl e_Api_Element a63)), (14, (.int .i64 a64)), (15, (.int .i64 x65))] σ → Hp S0 R S [(i1, .cells (c_Api_Element a66))] [(v62, 1)] [] → WC env ⟨52, S0.length⟩ (.loop pc38L0) σ S false K := by
 intro n
 induction n with
 | zero => intro _ _ h; cases h
 | succ n ih =>
  intro x61 x65 h σ S v62 hv62 hk H
  rw [F38_L0] at h
  refine WC.loop <| WC.of_known hk <| WC.seqR <| us 1 rfl <| WO.nil <| WC.seq ?_
  rcases iteS h with ⟨hc84, h⟩ | ⟨hc84, h⟩
  refine WC.condT rfl hc84 <| WC.skip <| KX.seq_n <| WC.seq <| WC.block <| WC.seqR ?_
  obtain ⟨y76, hy76, h⟩ := bindS h
  refine w (.iptr (c_Api_Element y76) 0) rfl (nz rfl (stp_idxAddr rfl (isSl_enc _ _) rfl rfl rfl hy76 (e_Api_Element_cells _) rfl)) <| us 1 rfl <| WO.alloc' (ti := ty44) rfl rfl rfl rfl H ?_
  intro i77 S hi77 H
  refine wos 0 H hi77 rfl rfl rfl rfl rfl rfl rfl rfl rfl rfl ?_
  intro S H
  replace H : Hp S0 R _ [(i77, .cells (c_Api_Element y76)), (i1, .cells (c_Api_Element a66))] [(v62, 1)] [] := H
  refine WO.nil <| WC.seqR <| wg H 0 rfl rfl rfl rfl ?_
  obtain ⟨y78, hy78, h⟩ := bindS h
  refine cl (.tup [(.str y78.1), (.bool y78.2)]) [(.agg (c_Api_Element y76))] rfl rfl rfl rfl (sv (hrc0 hy78)) <| us 5 rfl <| WO.nil <| WC.seq <| WC.seqR <| us 1 rfl <| w (.bool (!y78.2)) rfl rfl <| w (.bool (!y78.2)) rfl rfl ?_
  refine WO.split 7 (SH H [(1, (.ptr i1 0)), (4, v62), (7, (.str y78.1)), (13, (encSl e_Api_Element a63)), (14, (.int .i64 a64)), (15, (.int .i64 x65)), (33, (.bool ((!y78.2) || (decide ((ad .i64 (Sl.len x61) (Str.len y78.1)) > 4000)))))]) ?_ ?_
  revert H
  cases hc79 : (!y78.2)
  intro H
  refine WO.go0 rfl rfl <| w v62 rfl rfl <| WO.go0 rfl rfl <| w (.int .i64 (Sl.len x61)) rfl (nz rfl (stp_len rfl hv62 rfl)) <| us 5 rfl <| WO.nil ?_
  exact kf H
  intro H
  refine us 7 rfl <| WO.nil ?_
  exact kf H
  rintro σ S e ⟨hk, H, rfl⟩
  refine WO.of_known hk <| WO.nil ?_
  rcases iteS h with ⟨hc83, h⟩ | ⟨hc83, h⟩
  refine WC.condT rfl hc83 <| WC.seqR <| us 2 rfl <| WO.nil <| WC.ret <| KX.seq_r <| KX.block_r <| KX.seq_r <| KX.seq_r ?_
  have h := oi h; subst h
  exact hret _ rfl kn (H.sub (.cons _ (.cons _ .slnil)) (.cons _ .slnil) .slnil)
  refine WC.condF rfl hc83 <| WC.skip <| KX.seq_n <| WC.region <| w v62 rfl rfl <| us 1 rfl ?_
  obtain ⟨z81, hz81, h⟩ := bindS h
  refine WO.ex rfl (nzx rfl (stp_appStr (ei := ty5) H 0 rfl rfl hv62 rfl rfl rfl rfl rfl hz81)) ?_
  rintro v82 S ⟨hv82, H⟩
  replace H : Hp S0 R _ [(i77, .cells (c_Api_Element y76)), (i1, .cells (c_Api_Element a66))] [(v82, 1)] [] := H
  refine w v82 rfl rfl <| WO.nil <| KX.block_n <| KX.seq_n <| WC.region <| us 2 rfl <| WO.nil <| KX.seq_n ?_
  exact ih h v82 (hv82) kn (H.sub (.cons _ (.cons_cons _ .slnil)) (.cons_cons _ .slnil) .slnil)
  refine WC.condF rfl hc84 <| WC.exit <| KX.seq_x <| KX.seq_x ?_
  have h := oi h; subst h
  exact hbrk _ rfl v62 (hv62) kn (hs H)
theorem s38 : ∀ k : Nat, ∀ {a0 : Api_Element} {r : Str × Bool}, F38 k a0 = some r → Q 38 [(.agg (c_Api_Element a0))] (.tup [(.str r.1), (.bool r.2)]) := by
 intro k
 induction k with
 | zero => intro _ r h; cases h
 | succ k ih =>
  intro a0 r h
  rw [F38] at h
  refine Qe.go (pf := fn38) rfl rfl (Nat.le_of_ble_eq_true rfl) (by simp [PV.clean, cleanL, clean_encSl clean_Api_Element]) rfl rfl fun H => ?_
  refine WC.seqR <| WO.box' rfl rfl rfl rfl rfl H ?_
  intro i1 S hi1 H
  refine us 2 rfl <| WO.nil <| WC.seqR <| us 1 rfl <| wg H 0 rfl rfl rfl rfl <| WO.ex rfl (nzx rfl (stp_bytes rfl rfl rfl rfl H)) ?_
  rintro v2 S ⟨hv2, H⟩
  replace H : Hp [] [] _ [(i1, .cells (c_Api_Element a0))] [(v2, 1)] [] := H
  refine w v2 rfl rfl <| WO.nil <| WC.seq <| WC.seqR <| us 1 rfl <| wg H 0 rfl rfl rfl rfl <| wl rfl rfl rfl <| us 1 rfl <| WO.nil ?_
  obtain ⟨y86, hy86, hOy86⟩ := bindS h
  refine WC.block ?_
  refine l38_L0 ih hi1 ?_ ?_ hy86 v2 (hv2) kn (hs H)
  intro y86r he σ S  hk H; subst he; replace h := hOy86; dsimp only at h
  refine KX.of_known hk <| KX.block_r <| KX.seq_r ?_
  have h := oi h; subst h
  refine KB.ret (vs := [(.str y86r.1), (.bool y86r.2)]) (res_tmp rfl (res_tmp rfl res_nil)) (fl_cons' rfl (fl_cons' rfl rfl)) ?_
  exact rfl
  intro y86b he σ S v87 hv87 hk H; subst he; replace h := hOy86; dsimp only at h
  refine KX.of_known hk <| KX.block_x <| KX.seq_n <| WC.seq <| WC.seqR <| w v87 rfl rfl <| w (.int .i64 (Sl.len y86b.1)) rfl (nz rfl (stp_len rfl hv87 rfl)) <| us 1 rfl <| WO.nil ?_
  rcases iteS h with ⟨hc93, h⟩ | ⟨hc93, h⟩
  refine WC.condT rfl hc93 <| WC.seqR <| us 2 rfl <| WO.nil <| WC.ret <| KX.seq_r ?_
  have h := oi h; subst h
  refine KB.ret (vs := [(.str []), (.bool false)]) (res_tmp rfl (res_tmp rfl res_nil)) (fl_cons' rfl (fl_cons' rfl rfl)) ?_
  exact rfl
  refine WC.condF rfl hc93 <| WC.skip <| KX.seq_n <| WC.seq <| WC.draw <| wh (.ptr i1 0) rfl rfl <| WH.step (v := .int .u8 a0.Tag) rfl (nz rfl (stp_load rfl (H.get 0 rfl) rfl)) rfl rfl <| WH.step rfl (nz rfl (stp_buildSlice (ys := [a0.Tag]) (f := (eI .u8)) (parts := [(0, (.int .u8 a0.Tag))]) rfl rfl rfl rfl rfl rfl (fc ⟨rfl, rfl⟩ (fun p hp => nomatch hp)) rfl)) rfl rfl ?_
  have hv89 : IsSl (eI .u8) (some [a0.Tag]) _ := ⟨.full, rfl⟩
  refine WH.step (v := (.str (Str.of (some [a0.Tag])))) rfl (nz (fz_tmp' hv89.frz rfl) (stp_text rfl hv89 rfl rfl rfl)) rfl rfl <| wh (v87) rfl rfl <| WH.step (v := (.int .i64 (Sl.len y86b.1))) rfl (nz rfl (stp_len rfl hv87 rfl)) rfl rfl ?_
  obtain ⟨y90, hy90, h⟩ := bindS h
  refine WH.step (v := .str y90) rfl (nz rfl (stp_call (vs := [(.int .i64 (Sl.len y86b.1))]) rfl rfl (s35 _ hy90 rfl _))) rfl rfl ?_
  obtain ⟨z91, hz91, h⟩ := bindS h
  refine WH.step (v := .str z91) rfl (nz rfl (stp_strApp rfl rfl hz91)) rfl rfl <| wh (v87) rfl rfl <| WH.step (v := (.str (Str.of y86b.1))) rfl (nz (fz_tmp' hv87.frz rfl) (stp_text rfl hv87 rfl rfl rfl)) rfl rfl <| WH.nil ?_
  obtain ⟨z92, hz92, h⟩ := bindS h
  refine w (.str z92) rfl (nz rfl (stp_strApp rfl rfl hz92)) <| us 2 rfl <| WO.nil <| KX.seq_n <| WC.ret ?_
  have h := oi h; subst h
  refine KB.ret (vs := [(.str z92), (.bool true)]) (res_tmp rfl (res_tmp rfl res_nil)) (fl_cons' rfl (fl_cons' rfl rfl)) ?_
  exact rfl
def F17 (k : Nat) (a0 : Api_Element) : Option (Str × Int) :=
 Option.bind (F36 k a0) fun y2 =>
 if !y2 then
 some ([], 14)
 else
 Option.bind (F37 k a0) fun y4 =>
 if decide (y4 > 20) then
 some ([], 12)
 else
 Option.bind (F38 k a0) fun y6 =>
 if !y6.2 then
 some ([], 13)
 else
 some (y6.1, 0)
theorem s17 : ∀ k : Nat, ∀ {a0 : Api_Element} {r : Str × Int}, F17 k a0 = some r → Q 17 [(.agg (c_Api_Element a0))] (.tup [(.str r.1), (.int .i64 r.2)]) := by
 intro k a0 r h
 unfold F17 at h
 refine Qe.go (pf := fn17) rfl rfl (Nat.le_of_ble_eq_true rfl) (by simp [PV.clean, cleanL, clean_encSl clean_Api_Element]) rfl rfl fun H => ?_
 refine WC.seqR <| WO.box' rfl rfl rfl rfl rfl H ?_
 intro i1 S hi1 H
 refine us 2 rfl <| WO.nil <| WC.seq <| WC.seqR <| wg H 0 rfl rfl rfl rfl ?_
 obtain ⟨y2, hy2, h⟩ := bindS h
 refine cl (.bool y2) [(.agg (c_Api_Element a0))] rfl rfl rfl rfl (sv (s36 _ hy2)) <| us 1 rfl <| WO.nil ?_
 rcases iteS h with ⟨hc10, h⟩ | ⟨hc10, h⟩
 refine WC.condT rfl hc10 <| WC.seqR <| us 2 rfl <| WO.nil <| WC.ret <| KX.seq_r ?_
 have h := oi h; subst h
 refine KB.ret (vs := [(.str []), (.int .i64 14)]) (res_tmp rfl (res_tmp rfl res_nil)) (fl_cons' rfl (fl_cons' rfl rfl)) ?_
 exact rfl
 refine WC.condF rfl hc10 <| WC.skip <| KX.seq_n <| WC.seq <| WC.seqR <| wg H 0 rfl rfl rfl rfl ?_
 obtain ⟨y4, hy4, h⟩ := bindS h
 refine cl (.int .i64 y4) [(.agg (c_Api_Element a0))] rfl rfl rfl rfl (sv (s37 _ hy4)) <| us 1 rfl <| WO.nil ?_
 rcases iteS h with ⟨hc9, h⟩ | ⟨hc9, h⟩
 refine WC.condT rfl hc9 <| WC.seqR <| us 2 rfl <| WO.nil <| WC.ret <| KX.seq_r ?_
 have h := oi h; subst h
 refine KB.ret (vs := [(.str []), (.int .i64 12)]) (res_tmp rfl (res_tmp rfl res_nil)) (fl_cons' rfl (fl_cons' rfl rfl)) ?_
 exact rfl
 refine WC.condF rfl hc9 <| WC.skip <| KX.seq_n <| WC.seqR <| wg H 0 rfl rfl rfl rfl ?_
 obtain ⟨y6, hy6, h⟩ := bindS h
 refine cl (.tup [(.str y6.1), (.bool y6.2)]) [(.agg (c_Api_Element a0))] rfl rfl rfl rfl (sv (s38 _ hy6)) <| us 5 rfl <| WO.nil <| WC.seq <| WC.seqR <| us 2 rfl <| WO.nil ?_
 rcases iteS h with ⟨hc8, h⟩ | ⟨hc8, h⟩
 refine WC.condT rfl hc8 <| WC.seqR <| us 2 rfl <| WO.nil <| WC.ret <| KX.seq_r ?_
 have h := oi h; subst h
 refine KB.ret (vs := [(.str []), (.int .i64 13)]) (res_tmp rfl (res_tmp rfl res_nil)) (fl_cons' rfl (fl_cons' rfl rfl)) ?_
 exact rfl
 refine WC.condF rfl hc8 <| WC.skip <| KX.seq_n <| WC.seqR <| us 3 rfl <| WO.nil <| WC.ret ?_
 have h := oi h; subst h
 refine KB.ret (vs := [(.str y6.1), (.int .i64 0)]) (res_tmp rfl (res_tmp rfl res_nil)) (fl_cons' rfl (fl_cons' rfl rfl)) ?_
 exact rfl
def F6 (k : Nat) (a0 : Api_Msg) : Option (Str × Int) :=
 Option.bind (F9 k a0) fun y2 =>
 if !y2 then
 some ([], 14)
 else
 Option.bind (F11 k a0.Op a0.Of) fun y4 =>
 Option.bind (F12 k y4 none) fun y5 =>
 Option.bind (if a0.Op == 6 then
 Option.bind (F13 k y4 a0.DN) fun y69 =>
 some y69
 else
 Option.bind (if a0.Op == 2 then
 some y5
 else
 Option.bind (F14 k a0) fun y77 =>
 Option.bind (F12 k y4 y77) fun y78 =>
 some y78) fun y76 =>
 some y76) fun y68 =>
 Option.bind (F15 k 2 a0.ID) fun y81 =>
 Option.bind (F12 k 48 (some [y81, y68])) fun y83 =>
 Option.bind (F16 k y83) fun y86 =>
 if decide (y86 > 4000) then
 some ([], 13)
 else
 Option.bind (F17 k y83) fun y88 =>
 some (y88.1, y88.2)
theorem s6 : ∀ k : Nat, ∀ {a0 : Api_Msg} {r : Str × Int}, F6 k a0 = some r → Q 6 [(.agg (c_Api_Msg a0))] (.tup [(.str r.1), (.int .i64 r.2)]) := by
 intro k a0 r h
 unfold F6 at h
 refine Qe.go (pf := fn6) rfl rfl (Nat.le_of_ble_eq_true rfl) (by simp [PV.clean, cleanL, clean_encSl clean_Api_Filter, clean_encSl clean_Api_Mod, clean_encSl clean_eS]) rfl rfl fun H => ?_
 refine WC.seqR <| WO.box' rfl rfl rfl rfl rfl H ?_
 intro i1 S hi1 H
 refine us 2 rfl <| WO.nil <| WC.seq <| WC.seqR <| wg H 0 rfl rfl rfl rfl ?_
 obtain ⟨y2, hy2, h⟩ := bindS h
 refine cl (.bool y2) [(.agg (c_Api_Msg a0))] rfl rfl rfl rfl (sv (s9 _ hy2)) <| us 1 rfl <| WO.nil ?_
 rcases iteS h with ⟨hc90, h⟩ | ⟨hc90, h⟩
 refine WC.condT rfl hc90 <| WC.seqR <| us 2 rfl <| WO.nil <| WC.ret <| KX.seq_r ?_
 have h := oi h; subst h
 refine KB.ret (vs := [(.str []), (.int .i64 14)]) (res_tmp rfl (res_tmp rfl res_nil)) (fl_cons' rfl (fl_cons' rfl rfl)) ?_
 exact rfl
 refine WC.condF rfl hc90 <| WC.skip <| KX.seq_n <| WC.seqR <| us 1 rfl <| wg H 0 rfl rfl rfl rfl <| us 1 rfl <| wg H 0 rfl rfl rfl rfl ?_
 obtain ⟨y4, hy4, h⟩ := bindS h
 refine cl (.int .u8 y4) [(.int .i64 a0.Op), (.int .i64 a0.Of)] rfl rfl rfl rfl (s11 _ hy4 rfl) <| us 1 rfl <| WO.nil <| WC.seqR <| us 1 rfl ?_
 obtain ⟨y5, hy5, h⟩ := bindS h
 refine cl (.agg (c_Api_Element y5)) [(.int .u8 y4), .nils] rfl rfl rfl rfl (sv (s12 _ hy5)) <| WO.alloc' (ti := ty44) rfl rfl rfl rfl H ?_
 intro i6 S hi6 H
 refine wos 0 H hi6 rfl rfl rfl rfl rfl rfl rfl rfl rfl rfl ?_
 intro S H
 replace H : Hp [] [] _ [(i6, .cells (c_Api_Element y5)), (i1, .cells (c_Api_Msg a0))] [] [] := H
 refine WO.nil <| WC.seq <| WC.seqR <| us 1 rfl <| wg H 1 rfl rfl rfl rfl <| WO.nil <| WC.block <| WC.seqR <| us 2 rfl <| WO.nil ?_
 obtain ⟨y68, hy68, hOy68⟩ := bindS h
 refine WC.join (SJ [(1, (.ptr i1 0)), (5, (.ptr i6 0))] [] [] [(i6, .cells (c_Api_Element y68)), (i1, .cells (c_Api_Msg a0))] [] [] false) ?_ ?_
 replace h := hy68
 rcases iteS h with ⟨hc80, h⟩ | ⟨hc80, h⟩
 refine WC.condT rfl hc80 <| WC.region <| us 2 rfl <| wg H 1 rfl rfl rfl rfl ?_
 obtain ⟨y69, hy69, h⟩ := bindS h
 refine cl (.agg (c_Api_Element y69)) [(.int .u8 y4), (.str a0.DN)] rfl rfl rfl rfl (s13 _ hy69 rfl) <| wos 0 H hi6 rfl rfl rfl rfl rfl rfl rfl rfl rfl rfl ?_
 intro S H
 replace H : Hp [] [] _ [(i6, .cells (c_Api_Element y69)), (i1, .cells (c_Api_Msg a0))] [] [] := H
 refine WO.nil <| KX.seq_n ?_
 have h := oi h; subst h
 exact kh H
 refine WC.condF rfl hc80 <| WC.seqR <| us 2 rfl <| WO.nil ?_
 obtain ⟨y76, hy76, hOy76⟩ := bindS h
 refine WC.join (SJ [(1, (.ptr i1 0)), (5, (.ptr i6 0))] [] [] [(i6, .cells (c_Api_Element y76)), (i1, .cells (c_Api_Msg a0))] [] [] false) ?_ ?_
 replace h := hy76
 rcases iteS h with ⟨hc79, h⟩ | ⟨hc79, h⟩
 refine WC.condT rfl hc79 <| WC.skip <| KX.seq_n ?_
 have h := oi h; subst h
 exact kh H
 refine WC.condF rfl hc79 <| WC.region <| us 1 rfl <| wg H 1 rfl rfl rfl rfl ?_
 obtain ⟨y77, hy77, h⟩ := bindS h
 refine cl (encSl e_Api_Element y77) [(.agg (c_Api_Msg a0))] rfl rfl rfl rfl (sv (s14 _ hy77)) ?_
 obtain ⟨y78, hy78, h⟩ := bindS h
 refine cl (.agg (c_Api_Element y78)) [(.int .u8 y4), (encSl e_Api_Element y77)] rfl rfl rfl (fz_tmp' rfl (fe rfl rfl)) (sv (s12 _ hy78)) <| wos 0 H hi6 rfl rfl rfl rfl rfl rfl rfl rfl rfl rfl ?_
 intro S H
 replace H : Hp [] [] _ [(i6, .cells (c_Api_Element y78)), (i1, .cells (c_Api_Msg a0))] [] [] := H
 refine WO.nil <| KX.seq_n ?_
 have h := oi h; subst h
 exact kh H
 rintro σ S e ⟨hk, H, rfl⟩
 replace h := hOy76
 refine KX.of_known hk <| KX.seq_n ?_
 have h := oi h; subst h
 exact kh H
 rintro σ S e ⟨hk, H, rfl⟩
 replace h := hOy68
 refine KX.of_known hk <| KX.block_n <| KX.seq_n <| WC.seq <| WC.drawC <| wk (.ptr i1 0) rfl rfl rfl rfl <| wkl H 1 rfl rfl rfl rfl ?_
 obtain ⟨y81, hy81, h⟩ := bindS h
 refine WK.step (v := (.agg (c_Api_Element y81))) rfl (pz rfl rfl (show List.map PV.strip [(.int .u8 2), (.int .i64 a0.ID)] = [(.int .u8 2), (.int .i64 a0.ID)] from rfl) rfl (s15 _ hy81 (show List.map PV.strip [(.int .u8 2), (.int .i64 a0.ID)] = [(.int .u8 2), (.int .i64 a0.ID)] from rfl) []) (by simp [PV.clean, cleanL, clean_encSl clean_Api_Element]) (by simp only [st_agg, List.map_cons, List.map_nil, st1_int, st1_str, strip1_enc, e_Api_Element_eq, tupled])) rfl rfl rfl rfl <| wkl H 0 rfl rfl rfl rfl <| WK.step rfl (nz rfl (stp_buildSlice (ys := [y81, y68]) (f := e_Api_Element) (parts := [(0, (.agg (c_Api_Element y81))), (1, (.agg (c_Api_Element y68)))]) rfl rfl rfl rfl rfl (by simp only [st_agg, List.map_cons, List.map_nil, st1_int, st1_str, strip1_enc, e_Api_Element_eq, tupled]) (fc ⟨rfl, rfl⟩ (fc ⟨rfl, rfl⟩ (fun p hp => nomatch hp))) rfl)) rfl rfl rfl rfl ?_
 have hv82 : IsSl e_Api_Element (some [y81, y68]) _ := ⟨.full, rfl⟩
 obtain ⟨y83, hy83, h⟩ := bindS h
 refine WK.step (v := (.agg (c_Api_Element y83))) rfl (pz (fo rfl (fz_tmp' hv82.frz rfl)) rfl (show List.map PV.strip [(.int .u8 48), (.lst (List.map e_Api_Element [y81, y68]) .full)] = [(.int .u8 48), (encSl e_Api_Element (some [y81, y68]))] from (by simp only [st_int, hv82.strip, st_lst, encSl_some, eI, eB, eS, List.map_cons, List.map_nil, tupled])) (by simp [PV.clean, cleanL, clean_encSl clean_Api_Element]) (s12 _ hy83 (show List.map PV.strip [(.int .u8 48), (encSl e_Api_Element (some [y81, y68]))] = [(.int .u8 48), (encSl e_Api_Element (some [y81, y68]))] from (by simp only [st_lst, st1_lst, st_int, strip_enc, encSl_some, eI, eB, eS, List.map_cons, List.map_nil, tupled])) []) (by simp [PV.clean, cleanL, clean_encSl clean_Api_Element]) (by simp only [st_agg, List.map_cons, List.map_nil, st1_int, st1_str, strip1_enc, e_Api_Element_eq, tupled])) rfl rfl rfl (ind_pure (fc rfl (fc hv82.notRow (fun p hp => nomatch hp)))) ?_
 have Hh85 := H
 refine WK.alloc' (ti := ty44) rfl rfl rfl rfl H ?_
 intro i84 S hi84 H
 refine ⟨(pend_cons (ld (H.get 1 rfl) rfl) (pend_cons (ld (H.get 2 rfl) rfl) pend_nil)), ?_⟩
 refine WK.nil <| wos 0 H hi84 rfl rfl rfl rfl rfl rfl rfl rfl rfl rfl ?_
 intro S H
 replace H : Hp [] [] _ [(i84, .cells (c_Api_Element y83)), (i6, .cells (c_Api_Element y68)), (i1, .cells (c_Api_Msg a0))] [] [] := H
 refine WO.nil <| KX.seq_n <| WC.seq <| WC.seqR <| wg H 0 rfl rfl rfl rfl ?_
 obtain ⟨y86, hy86, h⟩ := bindS h
 refine cl (.int .i64 y86) [(.agg (c_Api_Element y83))] rfl rfl rfl rfl (sv (s16 _ hy86)) <| us 1 rfl <| WO.nil ?_
 rcases iteS h with ⟨hc89, h⟩ | ⟨hc89, h⟩
 refine WC.condT rfl hc89 <| WC.seqR <| us 2 rfl <| WO.nil <| WC.ret <| KX.seq_r ?_
 have h := oi h; subst h
 refine KB.ret (vs := [(.str []), (.int .i64 13)]) (res_tmp rfl (res_tmp rfl res_nil)) (fl_cons' rfl (fl_cons' rfl rfl)) ?_
 exact rfl
 refine WC.condF rfl hc89 <| WC.skip <| KX.seq_n <| WC.seqR <| wg H 0 rfl rfl rfl rfl ?_
 obtain ⟨y88, hy88, h⟩ := bindS h
 refine cl (.tup [(.str y88.1), (.int .i64 y88.2)]) [(.agg (c_Api_Element y83))] rfl rfl rfl rfl (sv (s17 _ hy88)) <| us 4 rfl <| WO.nil <| WC.ret ?_
 have h := oi h; subst h
 refine KB.ret (vs := [(.str y88.1), (.int .i64 y88.2)]) (res_tmp rfl (res_tmp rfl res_nil)) (fl_cons' rfl (fl_cons' rfl rfl)) ?_
 exact rfl
end Go.Proofs.YtbinlabnilidiaaDoor.M
